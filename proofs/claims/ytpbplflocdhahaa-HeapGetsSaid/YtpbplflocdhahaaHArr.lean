/- Rows of laws over sixteen bytes. -/
import Derived.ChangeSame
import Derived.SizedLaws
import Derived.ChangeSlices
import Derived.Test.YtpbplflocdhahaaHView
set_option linter.unusedVariables false
namespace Go.Proofs.Ytpbplflocdhahaa.HRow
open Go.ChangeShapes Go.WideShapes Go.Deep Go.Proofs.YtpbplflocdhahaaW.PrintWords Go.Proofs.Ytpbplflocdhahaa.HP Go.Proofs.Ytpbplflocdhahaa.P
section
variable {H : Type} {enc : TypeId × Value → H} {P : Program} {k e : TypeId} {base : Nat} {sp : Nat → Bool} {held : Bool}
theorem mapM_u8 {W : World} (he : P.underlying e = some (.int .u8)) {m : Nat} {cs : List Value} {c : Nat} : ∀ (L : List Nat) (xs : List (DataW H × List MemPlace)),
    L.mapM (fun i => DataW.trod enc P W base sp held m e ((cs.drop (i * c)).take c)) = some xs →
    ∃ zs : List Int, xs = zs.map (fun z => (.lit (.int .u8 z), [])) ∧ (∀ z ∈ zs, (Lit.int .u8 z).wf = true) ∧ L.map (fun i => (cs.drop (i * c)).take c) = zs.map (fun z => [Value.int .u8 z]) ∧
      ∀ (W' : World) (sp' : Nat → Bool), L.mapM (fun i => DataW.trod enc P W' base sp' held 1 e ((cs.drop (i * c)).take c)) = some xs
  | [], xs, h => by
    simp at h
    subst h
    exact ⟨[], rfl, by simp, rfl, fun _ _ => rfl⟩
  | i :: L, xs, h => by
    rw [List.mapM_cons] at h
    simp only [bind, Option.bind_eq_some_iff, pure, Option.some.injEq] at h
    obtain ⟨y, hy, ys, hys, rfl⟩ := h
    obtain ⟨zs, rfl, hw, hm, hl⟩ := mapM_u8 he L ys hys
    obtain ⟨z, ea, rfl, wa⟩ := DataW.trod_int he hy
    refine ⟨z :: zs, rfl, ?_, ?_, fun W' sp' => ?_⟩
    · intro q hq
      rcases List.mem_cons.1 hq with rfl | hq
      · exact wa
      · exact hw q hq
    · rw [List.map_cons, List.map_cons, ea, hm]
    · rw [List.mapM_cons, hl W' sp', ea]
      simp [DataW.trod, he, wa]
theorem open_arr16 {W : World} {r : Reach} {b0 : Nat} {v : Value} {d : DataW H} {ps : List MemPlace} (hu : P.underlying k = some (.array 16 e)) (he : P.underlying e = some (.int .u8)) (h1 : P.cellsOf e = 1) (hC : P.cellsOf k = 16)
    (hval : Value.okWide P W r b0 k v) (hd : DataW.Trod enc P W base sp held k v d ps) :
    ∃ a : List Int, a.length = 16 ∧ isB a ∧ v = .agg (cel a) ∧ ps = [] ∧ ∀ (W' : World) (sp' : Nat → Bool), DataW.Trod enc P W' base sp' held k (.agg (cel a)) d [] := by
  simp only [Value.okWide, hu] at hval
  obtain ⟨cs, rfl, h2, _⟩ := hval
  rw [hC] at h2
  obtain ⟨fuel, hf⟩ := hd
  cases fuel with
  | zero => simp [DataW.trod] at hf
  | succ m =>
    rw [DataW.trod_step] at hf
    unfold DataW.trodStep at hf
    simp only [hu, Value.cells] at hf
    rw [if_pos (by rw [hC]; simpa using h2), h1] at hf
    simp only [Option.map_eq_some_iff] at hf
    obtain ⟨ys, hy, e1⟩ := hf
    obtain ⟨zs, rfl, hw, hm, hl⟩ := mapM_u8 he _ ys hy
    simp only [Prod.mk.injEq] at e1
    have hlen : zs.length = 16 := by
      have := congrArg List.length hm
      simpa using this.symm
    have hcs : cs = cel zs := by
      apply Array.ext
      · rw [h2, cel_size, hlen]
      · intro i h3 h4
        have hi : i < 16 := by omega
        have h5 := congrArg (fun l => l[i]?) hm
        simp only [List.getElem?_map] at h5
        rw [List.getElem?_range hi, List.getElem?_eq_getElem (show i < zs.length by omega)] at h5
        simp only [Option.map_some, Option.some.injEq, Nat.mul_one] at h5
        have h6 : (cs.toList.drop i).take 1 = [cs[i]] := by
          rw [List.take_one]
          simp [List.head?_drop, h3]
        rw [h6] at h5
        injection h5 with h5
        rw [h5]
        have := cel_get zs i (by omega)
        rw [Array.getElem?_eq_getElem h4] at this
        injection this with this
        exact this.symm
    subst hcs
    refine ⟨zs, hlen, ?_, rfl, by rw [← e1.2]; simp [List.flatMap_eq_nil_iff], fun W' sp' => ⟨2, ?_⟩⟩
    · intro x hx
      have := hw x hx
      simp [Lit.wf, IntKind.min, IntKind.max, IntKind.signed, IntKind.bits] at this
      omega
    · rw [DataW.trod_step]
      unfold DataW.trodStep
      simp only [hu, Value.cells]
      rw [if_pos (by rw [hC]; simp [cel_size, hlen]), h1, hl W' sp']
      simp only [Option.map_some, Option.some.injEq, Prod.mk.injEq]
      exact ⟨e1.1, by simp [List.flatMap_eq_nil_iff]⟩
end
end Go.Proofs.Ytpbplflocdhahaa.HRow
