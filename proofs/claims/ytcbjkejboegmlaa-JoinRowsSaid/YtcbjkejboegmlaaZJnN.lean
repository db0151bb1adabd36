import Derived.Test.YtcbjkejboegmlaaZJ1
import Derived.Test.YtcbjkejboegmlaaZPx3
/- group.Numbers. -/
set_option linter.unusedVariables false
set_option linter.unusedSimpArgs false
namespace Go.Proofs.Ytcbjkejboegmlaa.HW
open Go.RowKit Go.Proofs.Ytcbjkejboegmlaa.P Go.Proofs.Ytcbjkejboegmlaa.HP Go.Proofs.YtcbjkejboegmlaaW.PrintWords Go.Proofs.YtcbjkejboegmlaaW.PrintLast Go.Proofs.YtcbjkejboegmlaaW.PrintMore
attribute [local go_sem] max2_int min2_int max_two min_two max_three min_three max_four min_four
theorem Tab.mono {lo : Nat} {ok ok' : Nat → Prop} {w : World} {g : Nat} {pl : List Int} {ks : List Key} (h : Tab lo ok w g pl ks) (hk : ∀ k, ok k → ok' k) : Tab lo ok' w g pl ks := by
  obtain ⟨h1, h2, vP, vK, hg, hP, hK⟩ := h
  exact ⟨h1, hk _ h2, vP, vK, hg, Kd.R_mono hP hk, Kd.R_mono hK hk⟩
theorem Tab.bound {lo : Nat} {ok : Nat → Prop} {w : World} {g : Nat} {pl : List Int} {ks : List Key} (h : Tab lo ok w g pl ks) : Tab lo (fun k => ok k ∧ k < w.heap.size) w g pl ks := by
  obtain ⟨h1, h2, vP, vK, hg, hP, hK⟩ := h
  exact ⟨h1, ⟨h2, blk_lt hg⟩, vP, vK, hg, Kd.R_mono (Kd.R_bound hP) (fun k hk => ⟨hk.1, hk.2.2.1⟩), Kd.R_mono (Kd.R_bound hK) (fun k hk => ⟨hk.1, hk.2.2.1⟩)⟩
theorem Tab.grown {lo : Nat} {ok : Nat → Prop} {w w' : World} {g : Nat} {pl : List Int} {ks : List Key} {row : Option Nat} (h : Tab lo ok w g pl ks) (hg : w.grownBy w' row) (hk : ∀ k, ok k → some k ≠ row) : Tab lo ok w' g pl ks := by
  obtain ⟨h1, h2, vP, vK, hgb, hP, hK⟩ := h
  exact ⟨h1, h2, vP, vK, (hg.block g (blk_lt hgb) (hk g h2)).trans hgb, Kd.R_grown hP hg hk, Kd.R_grown hK hg hk⟩
/-- A row's key. -/
def ofL (row : List S43) (cols : List Int) : Key := cols.map (fun c => rd_T43 row c)
theorem of_l (row : List S43) (cols : List Int) (hc : ∀ c ∈ cols, 0 ≤ c ∧ c < (row.length : Int)) (hn : cols.length ≤ 1000) : ∀ (d i : Nat) (acc : List S43), i + d = cols.length → acc.length ≤ i → Ev (fun k => group_of.l0 k row acc cols (cols.length : Int) (i : Int)) (acc ++ ofL row (cols.drop i)) := by
  intro d
  induction d with
  | zero =>
    intro i acc hi _
    refine Ev.step (fun k => by rw [group_of.l0]) ?_
    simp only [if_neg (show ¬ (i : Int) < (cols.length : Int) by omega)]
    rw [List.drop_eq_nil_of_le (by omega)]
    simp only [ofL, List.map_nil, List.append_nil]
    exact Ev.now _
  | succ d ih =>
    intro i acc hi ha
    have w1 : wrap64 ((i : Int) + 1) = ((i + 1 : Nat) : Int) := wr1 i (by omega)
    refine Ev.step (fun k => by rw [group_of.l0]) ?_
    have hil : i < cols.length := by omega
    have hr : rd cols (i : Int) = cols[i] := rd_nat cols i hil
    obtain ⟨h0, h1⟩ := hc cols[i] (List.getElem_mem hil)
    simp only [if_pos (show (i : Int) < (cols.length : Int) by omega), if_pos (show (0 : Int) ≤ (i : Int) by omega), hr, if_pos h0, if_pos h1, if_pos (show acc.length < 5864062014805 by omega), w1]
    have h9 := ih (i + 1) (acc ++ [rd_T43 row cols[i]]) (by omega) (by simp; omega)
    rw [List.drop_eq_getElem_cons hil]
    simp only [ofL, List.map_cons]
    rw [show acc ++ rd_T43 row cols[i] :: List.map (fun c => rd_T43 row c) (List.drop (i + 1) cols) = acc ++ [rd_T43 row cols[i]] ++ ofL row (cols.drop (i + 1)) by simp [ofL]]
    exact h9
theorem of_f (row : List S43) (cols : List Int) (hc : ∀ c ∈ cols, 0 ≤ c ∧ c < (row.length : Int)) (hn : cols.length ≤ 1000) : Ev (fun k => group_of.f k row cols) (ofL row cols) := by
  unfold group_of.f
  have h9 := of_l row cols hc hn _ 0 [] (Nat.zero_add _) (by simp)
  simpa using h9
/-- The first i rows' numbers. -/
def NumsP (keys : List Key) (i : Nat) (ks : List Key) (out : List Int) : Prop := out.length = i ∧ ks.length ≤ i ∧ ∀ j, j < i → ∃ r : Nat, out.getD j 0 = (r : Int) ∧ r < ks.length ∧ ks.getD r [] = keys.getD j []
theorem NumsP.step {keys : List Key} {i r : Nat} {ks ks' : List Key} {out : List Int} (h : NumsP keys i ks out) (hk : ks' = ks ∨ ks' = ks ++ [keys.getD i []]) (hr : r < ks'.length) (he : ks'.getD r [] = keys.getD i []) : NumsP keys (i + 1) ks' (out ++ [(r : Int)]) := by
  obtain ⟨h1, h2, h3⟩ := h
  refine ⟨by simp [h1], ?_, fun j hj => ?_⟩
  · rcases hk with rfl | rfl
    · omega
    · simp; omega
  · rcases Nat.lt_or_ge j i with hlt | hge
    · obtain ⟨r', e1, e2, e3⟩ := h3 j hlt
      have e4 : (out ++ [(r : Int)]).getD j 0 = out.getD j 0 := by
        simp only [List.getD_eq_getElem?_getD]
        rw [List.getElem?_append_left (by omega)]
      rcases hk with rfl | rfl
      · exact ⟨r', e4.trans e1, e2, e3⟩
      · exact ⟨r', e4.trans e1, by simp; omega, by rw [getD_app e2]; exact e3⟩
    · obtain rfl : j = i := by omega
      refine ⟨r, ?_, hr, he⟩
      simp [List.getD_eq_getElem?_getD, ← h1]
def NumsOf (keys : List Key) (out : List Int) : Prop := ∃ ks, Distinct ks ∧ NumsP keys keys.length ks out
set_option maxHeartbeats 8000000 in
set_option maxRecDepth 100000 in
theorem Numbers_ (A0 : Option Addr) (c0 : Nat) (l0 : List (List S43)) (A1 : Option Addr) (c1 : Nat) (l1 : List Int) (w : World) (hr0 : Kd.C (Kd.slice 43 k43) w A0 l0.length l0) (hr1 : Kd.C (Kd.int .i64) w A1 l1.length l1) (hc1 : l1.length ≤ c1) (hn : l0.length ≤ 1000) (hl1 : l1.length ≤ 1000)
    (hcol : ∀ row ∈ l0, ∀ c ∈ l1, 0 ≤ c ∧ c < (row.length : Int)) (hsz : ∀ row ∈ l0, ∀ x ∈ row, x.f1.size ≤ 1000000) :
    Calls Try.prog 23 #[.slice A0 l0.length c0, .slice A1 l1.length c1] w fun e w' => ∃ (v : Value) (out : List Int), e = .returned v ∧ Kd.R (Kd.int .i64) 3 w' w.heap.size (fun _ => True) v out ∧ NumsOf (l0.map (fun row => ofL row l1)) out ∧ Below w.heap.size w w' := by
  have HR0 := Aside0.mk hr0
  have HR1 := Aside0.mk hr1
  have HC1 := Aside0.mk hc1
  have HN := Aside0.mk hn
  have HL1 := Aside0.mk hl1
  have HCOL := Aside0.mk hcol
  have HSZ := Aside0.mk hsz
  have HB := Aside0.mk (Below.refl w.heap.size w)
  clear hr0 hr1 hc1 hn hl1 hcol hsz
  go_enter Try.func23, Try.ntmps23
  go_wp2_with fail
  go_loopg [6, 13] (l0.length : Nat) (fun kq v6 v13 w' => ∃ (i : Nat) (pl : List Int) (ks : List Key) (out : List Int), v13 = .int .i64 (i : Int) ∧ Aside0 (i + kq = l0.length) ∧ Aside0 (InvT pl ks) ∧ Aside0 (NumsP (l0.map (fun row => ofL row l1)) i ks out) ∧ Aside0 (∀ k ∈ ks, k.length ≤ 1000000 ∧ ∀ x ∈ k, x.f1.size ≤ 1000000) ∧ Aside0 (Tab w.heap.size (fun k => some k ≠ v6.ownBlock) w' w.heap.size pl ks) ∧ Aside0 (Kd.R (Kd.int .i64) 3 w' w.heap.size (fun _ => True) v6 out) ∧ Aside0 (Below w.heap.size w w'))
  case atStart =>
    refine ⟨0, [], [], [], rfl, ⟨by omega⟩, ⟨fun i j _ hj => absurd hj (by simp), .inl ⟨rfl, rfl⟩⟩, ⟨rfl, by simp, fun j hj => absurd hj (by omega)⟩, ⟨by simp⟩, ⟨⟨Nat.le_refl _, by simp [Value.ownBlock], _, _, blk_new w _, Kd.R_nil _ _ _ _ _, Kd.R_nil _ _ _ _ _⟩⟩, ⟨Kd.R_nil _ _ _ _ _⟩, ⟨by repeat (first | exact HB.out | apply below_alloc | apply pw_below_drewN | apply below_drew1)⟩⟩
  case round =>
    clear HB
    obtain ⟨i, pl, ks, out, rfl, HI, HIV, HNP, HKZ, HT, HO, HB⟩ := hrel
    cases gk with
    | zero =>
      have c_ : ¬ (i : Int) < (l0.length : Int) := by have := HI.out; omega
      have cb : decide ((i : Int) < (l0.length : Int)) = false := decide_eq_false c_
      have cb2 : decide (i < l0.length) = false := decide_eq_false (by omega)
      clear c_
      go_wp2_with fail
      go_ret
      refine ⟨_, out, rfl, HO.out, ⟨ks, HIV.out.1, ?_⟩, HB.out⟩
      rw [List.length_map, ← show i = l0.length by have := HI.out; omega]
      exact HNP.out
    | succ k1 =>
      have c_ : (i : Int) < (l0.length : Int) := by have := HI.out; omega
      have cn : i < l0.length := by omega
      have cb : decide ((i : Int) < (l0.length : Int)) = true := decide_eq_true c_
      have cb2 : decide (i < l0.length) = true := decide_eq_true cn
      have p0 : ((0 : Int) ≤ (i : Int)) = True := eq_true (by omega)
      have q0 : ((i : Int) < (l0.length : Int)) = True := eq_true c_
      have q0n : (i < l0.length) = True := eq_true cn
      obtain ⟨adK, Ak, ck, eA, hy, hck, hCk⟩ := at_L3 (Kd.C_below HR0.out HB.out) (i : Int) (by omega) c_
      subst eA
      rw [rdL_get, Int.toNat_natCast] at hy
      rw [rdL_get] at hck hCk
      have hmem := getD_lt_mem l0 i cn
      have hkey : (l0.map (fun row => ofL row l1)).getD i [] = ofL (l0.getD i []) l1 := by simp [List.getD_eq_getElem?_getD, cn]
      have HKEY := Aside0.mk hkey
      obtain ⟨ko, hko⟩ := (of_f (l0.getD i []) l1 (HCOL.out _ hmem) HL1.out).rounds
      have HKO := Aside0.mk hko
      have hksz : ∀ x ∈ ofL (l0.getD i []) l1, x.f1.size ≤ 1000000 := by
        intro x hx
        obtain ⟨c, hc, rfl⟩ := List.mem_map.1 hx
        obtain ⟨h0, h1⟩ := HCOL.out _ hmem c hc
        obtain ⟨cn', rfl⟩ := Int.eq_ofNat_of_zero_le h0
        exact HSZ.out _ hmem _ (mem_rd43 _ _ (by omega))
      have HKS : Aside0 ((ofL (l0.getD i []) l1).length ≤ 1000000 ∧ ∀ x ∈ ofL (l0.getD i []) l1, x.f1.size ≤ 1000000) := ⟨by unfold ofL; rw [List.length_map]; have := HL1.out; omega, hksz⟩
      obtain ⟨row, hrow⟩ : ∃ row, row = l0.getD i [] := ⟨_, rfl⟩
      rw [← hrow] at hy hck hCk HKO HKS HKEY
      have HCk := Aside0.mk hCk
      have HCK := Aside0.mk hck
      have HI1 : Aside0 (wrap64 ((i : Int) + 1) = ((i + 1 : Nat) : Int)) := ⟨by unfold wrap64; have := HN.out; omega⟩
      obtain ⟨key, hkk⟩ : ∃ key, key = ofL row l1 := ⟨_, rfl⟩
      rw [← hkk] at HKO HKS HKEY
      obtain ⟨vO, hvO⟩ : ∃ v, v = u6 := ⟨_, rfl⟩
      rw [← hvO] at HT HO ⊢
      clear c_ hck hCk hmem hkey hko hksz hrow hkk hvO
      go_wp2_with fail
      refine (group_of.calls ko Ak ck row A1 c1 l1 key _ HCk.out HCK.out (Kd.C_below HR1.out HB.out) HC1.out HKO.out).mono ?_
      rintro e w1 ⟨v21, rfl, hv21, hb1⟩
      have hO1 := Kd.R_below HO.out hb1
      have hT1 : Tab w.heap.size (fun k => some k ≠ vO.ownBlock ∧ some k ≠ v21.ownBlock) w1 w.heap.size pl ks := (HT.out.bound.mono (fun k hk => ⟨hk.1, fun e => by have h8 := Kd.R_base hv21 k e.symm; have h9 := hk.2; omega⟩)).below hb1
      have hsz1 : w.heap.size ≤ w1.heap.size := Nat.le_trans HB.out.size hb1.size
      have hok : ∀ k, w1.heap.size ≤ k → some k ≠ vO.ownBlock ∧ some k ≠ v21.ownBlock := fun k hk => ⟨fun e => by have := Kd.R_lt hO1 k e.symm; omega, fun e => by have := Kd.R_lt hv21 k e.symm; omega⟩
      have HNU := Aside0.mk (Number_ w.heap.size w.heap.size (fun k => some k ≠ vO.ownBlock ∧ some k ≠ v21.ownBlock) (fun k => some k = v21.ownBlock) pl ks v21 key w1 hT1 hsz1 hok HIV.out (by have h8 := HNP.out.2.1; have h9 := HN.out; omega) HKZ.out (Kd.R_lower (Kd.R_tight rfl hv21) HB.out.size) (fun k hk ho => ho.2 hk) HKS.out)
      have HAP : Aside0 (∀ k, some k = v21.ownBlock → some k ≠ vO.ownBlock) := ⟨fun k hk e => by have h8 := Kd.R_base hv21 k hk.symm; have h9 := Kd.R_lt HO.out k e.symm; omega⟩
      have HB1 := Aside0.mk (below_step HB.out hb1)
      have HO1 := Aside0.mk hO1
      clear hO1 hT1 hsz1 hok hv21 hb1 hy HT HO HB
      go_wp2_with fail
      refine HNU.out.mono ?_
      rintro e w2 ⟨r, pl2, ks2, rfl, hr2, he2, hk2, hi2, ht2, hf2⟩
      have HO2 : Aside0 (Kd.R (Kd.int .i64) 3 w2 w.heap.size (fun _ => True) vO out) := ⟨Kd.R_mono (Kd.R_step (Kd.R_tight rfl HO1.out) (fun k hk hlt => hf2.rest k hlt (fun ho => ho.1 hk))) (fun _ _ => trivial)⟩
      have HF2 := Aside0.mk (HB1.out.trans hf2.below)
      have HT2 : Aside0 (Tab w.heap.size (fun k => some k ≠ vO.ownBlock) w2 w.heap.size pl2 ks2) := ⟨ht2.mono (fun k hk => by rcases hk with hk | hk; exact hk.1; exact HAP.out k hk)⟩
      have HI2 := Aside0.mk hi2
      have HNP2 := Aside0.mk (HNP.out.step (by rw [HKEY.out]; exact hk2) hr2 (by rw [HKEY.out]; exact he2))
      have HKZ2 : Aside0 (∀ k ∈ ks2, k.length ≤ 1000000 ∧ ∀ x ∈ k, x.f1.size ≤ 1000000) := ⟨fun k hk => by
        rcases hk2 with rfl | rfl
        · exact HKZ.out k hk
        · rcases List.mem_append.1 hk with hk | hk
          · exact HKZ.out k hk
          · rw [List.mem_singleton.1 hk]; exact HKS.out⟩
      clear hr2 he2 hk2 hi2 ht2 hf2 HNU HAP HO1 HB1
      go_wp2_with (first | ((with_reducible refine gate_builtin (b := .append) (xs := #[.tmp 17, .tmp 23]) rfl ?_); at_builtin; refine Kd.R_append (Kd.int .i64) (w0 := w) w.heap.size rfl (.tmp 17) (.tmp 23) 23 3 (.int .i64 0) 8 rfl Try.underlying23 infoI rfl (by decide) (by omega) vO out (r : Int) [.int .i64 (r : Int)] (fun _ => True) (fun _ => False) rfl rfl ?aP (fun _ hk => hk.elim) ?aF ?aO ?aB ?aS ?aL ?_; (case aP => rfl); (case aF => exact (fun _ _ => trivial)); (case aO => exact HO2.out); (case aB => exact HF2.out); (case aS => exact HF2.out.size); (case aL => have h9 := HN.out; have h8 := HNP.out.1; omega); intro v3 w3 ho hb hg hat; have HO3 := Aside0.mk ho; have HB3 := Aside0.mk hb; have HGR3 := Aside0.mk hg; have HAT3 := Aside0.mk hat; clear ho hb hg hat))
      go_roundg k1
      case measure => omega
      case rel =>
        refine ⟨i + 1, pl2, ks2, _, by first | rfl | (rw [HI1.out]), ⟨by have := HI.out; omega⟩, HI2, HNP2, HKZ2, ⟨?_⟩, HO3, HB3⟩
        refine (HT2.out.bound.grown HGR3.out (fun k hk => hk.1)).mono (fun k hk => ?_)
        rcases HAT3.out with h | ⟨b, h, hb⟩
        · rw [h]; exact hk.1
        · rw [h]; intro e; injection e with e; have := hk.2; omega
end Go.Proofs.Ytcbjkejboegmlaa.HW
