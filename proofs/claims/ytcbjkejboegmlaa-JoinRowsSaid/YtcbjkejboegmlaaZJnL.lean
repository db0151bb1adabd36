import Derived.Test.YtcbjkejboegmlaaZJ2
/- ref.Match: the two rows' keys are one, and none is gone. -/
set_option linter.unusedVariables false
set_option linter.unusedSimpArgs false
namespace Go.Proofs.Ytcbjkejboegmlaa.HW
open Go.RowKit Go.Proofs.Ytcbjkejboegmlaa.P Go.Proofs.Ytcbjkejboegmlaa.HP Go.Proofs.YtcbjkejboegmlaaW.PrintWords Go.Proofs.YtcbjkejboegmlaaW.PrintLast Go.Proofs.YtcbjkejboegmlaaW.PrintMore
attribute [local go_sem] max2_int min2_int max_two min_two max_three min_three max_four min_four
attribute [local go_sem high] eqA43
def mB (xs ys : Key) : Bool := decide (xs = ys) && !gonek xs
def SameTo (l r : Key) (lk rk : List Int) (i : Nat) : Prop := ∀ j, j < i → (rd_T43 l (rd lk (j : Int))).f0 = false ∧ rd_T43 l (rd lk (j : Int)) = rd_T43 r (rd rk (j : Int))
theorem of_at (l : Key) (lk : List Int) (j : Nat) (h : j < lk.length) : (ofL l lk)[j]? = some (rd_T43 l (rd lk (j : Int))) := by
  rw [rd_nat lk j h]
  simp [ofL, h]
theorem mB_yes {l r : Key} {lk rk : List Int} (hn : lk.length = rk.length) (h : SameTo l r lk rk lk.length) : mB (ofL l lk) (ofL r rk) = true := by
  have h1 : ofL l lk = ofL r rk := by
    apply List.ext_getElem?
    intro j
    rcases Nat.lt_or_ge j lk.length with hj | hj
    · rw [of_at l lk j hj, of_at r rk j (by omega), (h j hj).2]
    · rw [List.getElem?_eq_none (by simp [ofL]; omega), List.getElem?_eq_none (by simp [ofL]; omega)]
  have h2 : gonek (ofL l lk) = false := by
    unfold gonek
    rw [List.any_eq_false]
    intro x hx
    obtain ⟨j, hj, e⟩ := List.getElem_of_mem hx
    have hj2 : j < lk.length := by simpa [ofL] using hj
    have h9 := of_at l lk j hj2
    rw [List.getElem?_eq_getElem hj, e] at h9
    injection h9 with h9
    rw [h9, (h j hj2).1]
    simp
  unfold mB
  rw [h2, decide_eq_true h1]
  rfl
theorem mB_gone {l r : Key} {lk rk : List Int} {i : Nat} (hi : i < lk.length) (h : (rd_T43 l (rd lk (i : Int))).f0 = true) : mB (ofL l lk) (ofL r rk) = false := by
  have h2 : gonek (ofL l lk) = true := by
    unfold gonek
    rw [List.any_eq_true]
    exact ⟨_, List.mem_of_getElem? (of_at l lk i hi), h⟩
  unfold mB
  rw [h2]
  simp
theorem mB_no {l r : Key} {lk rk : List Int} {i : Nat} (hi : i < lk.length) (hn : lk.length = rk.length) (h : rd_T43 l (rd lk (i : Int)) ≠ rd_T43 r (rd rk (i : Int))) : mB (ofL l lk) (ofL r rk) = false := by
  have h2 : ofL l lk ≠ ofL r rk := fun e => by
    have h1 := of_at l lk i hi
    rw [e, of_at r rk i (by omega)] at h1
    injection h1 with h1
    exact h h1.symm
  unfold mB
  rw [decide_eq_false h2]
  rfl
theorem s43_split {x y : S43} (hx : x.f0 = false) : (y.f0 || !(x.f1.toList == y.f1.toList)) = !decide (x = y) := by
  have h := s43_ne x y
  rw [hx] at h
  rw [← h]
  cases y.f0 <;> rfl
set_option maxHeartbeats 8000000 in
set_option maxRecDepth 100000 in
theorem Match_ (A0 : Option Addr) (c0 : Nat) (l : Key) (A1 : Option Addr) (c1 : Nat) (r : Key) (A2 : Option Addr) (c2 : Nat) (lk : List Int) (A3 : Option Addr) (c3 : Nat) (rk : List Int) (w : World)
    (hr0 : Kd.C k43 w A0 l.length l) (hr1 : Kd.C k43 w A1 r.length r) (hr2 : Kd.C (Kd.int .i64) w A2 lk.length lk) (hr3 : Kd.C (Kd.int .i64) w A3 rk.length rk) (hn : lk.length = rk.length) (hln : lk.length ≤ 1000)
    (hcL : ∀ c ∈ lk, 0 ≤ c ∧ c < (l.length : Int)) (hcR : ∀ c ∈ rk, 0 ≤ c ∧ c < (r.length : Int)) :
    Calls Try.prog 16 #[.slice A0 l.length c0, .slice A1 r.length c1, .slice A2 lk.length c2, .slice A3 rk.length c3] w fun e w' => e = .returned (.bool (mB (ofL l lk) (ofL r rk))) ∧ Drawn0 w w' := by
  have hu43 := Try.underlying43
  have HR0 := Aside0.mk hr0
  have HR1 := Aside0.mk hr1
  have HR2 := Aside0.mk hr2
  have HR3 := Aside0.mk hr3
  have HN := Aside0.mk hn
  have HLN := Aside0.mk hln
  have HCL := Aside0.mk hcL
  have HCR := Aside0.mk hcR
  obtain ⟨N, hN⟩ : ∃ N, N = lk.length := ⟨_, rfl⟩
  obtain ⟨M, hM⟩ : ∃ M, M = rk.length := ⟨_, rfl⟩
  obtain ⟨U, hU⟩ : ∃ M, M = l.length := ⟨_, rfl⟩
  obtain ⟨V, hV⟩ : ∃ M, M = r.length := ⟨_, rfl⟩
  have HNN := Aside0.mk (And.intro hN (And.intro hM (And.intro hU hV)))
  obtain ⟨res, hres⟩ : ∃ b, b = mB (ofL l lk) (ofL r rk) := ⟨_, rfl⟩
  have HRES := Aside0.mk hres
  rw [← hN, ← hM, ← hU, ← hV, ← hres]
  clear hr0 hr1 hr2 hr3 hn hln hcL hcR hN hM hU hV hres
  go_enter Try.func16, Try.ntmps16
  go_wp2_with fail
  go_loopg [9] (N : Nat) (fun kq v9 w' => ∃ i : Nat, v9 = .int .i64 (i : Int) ∧ Aside0 (i + kq = N) ∧ Aside0 (SameTo l r lk rk i) ∧ Drawn0 w w')
  case atStart => exact ⟨0, rfl, ⟨by omega⟩, ⟨fun j hj => absurd hj (by omega)⟩, Drawn0.refl _⟩
  case round =>
    obtain ⟨i, rfl, HI, HP, ⟨m1, rfl⟩⟩ := hrel
    cases gk with
    | zero =>
      have cb : decide ((i : Int) < (N : Int)) = false := decide_eq_false (by have := HI.out; omega)
      have cb2 : decide (i < N) = false := decide_eq_false (by have := HI.out; omega)
      go_wp2_with fail
      go_ret
      have h9 := HP.out
      rw [show i = lk.length by have := HI.out; have := HNN.out.1; omega] at h9
      exact ⟨by rw [HRES.out, mB_yes HN.out h9]; rfl, by repeat (first | exact Drawn0.refl _ | apply Drawn0.step)⟩
    | succ k1 =>
      have ci : i < N := by have := HI.out; omega
      have ci2 : i < M := by have := HNN.out.1; have := HNN.out.2.1; have := HN.out; omega
      have cb : decide ((i : Int) < (N : Int)) = true := decide_eq_true (by omega)
      have cb2 : decide (i < N) = true := decide_eq_true ci
      have p0 : ((0 : Int) ≤ (i : Int)) = True := eq_true (by omega)
      have q0 : ((i : Int) < (N : Int)) = True := eq_true (by omega)
      have q0n : (i < N) = True := eq_true ci
      have q1 : ((i : Int) < (M : Int)) = True := eq_true (by omega)
      have q1n : (i < M) = True := eq_true ci2
      have wi : wrap64 ((i : Int) + 1) = (i : Int) + 1 := by unfold wrap64; have := HLN.out; have := HNN.out.1; omega
      obtain ⟨ad2, e2, x2⟩ := Kd.at_int HR2.out (i : Int) (by omega) (by have := HNN.out.1; omega)
      obtain ⟨ad3, e3, x3⟩ := Kd.at_int HR3.out (i : Int) (by omega) (by have := HNN.out.2.1; omega)
      have m2 := HCL.out (rd lk (i : Int)) (by rw [rd_nat lk i (by have := HNN.out.1; omega)]; exact List.getElem_mem _)
      have m3 := HCR.out (rd rk (i : Int)) (by rw [rd_nat rk i (by have := HNN.out.2.1; omega)]; exact List.getElem_mem _)
      obtain ⟨ad0, e0, x00, x01⟩ := at_T43 HR0.out (rd lk (i : Int)) m2.1 m2.2
      obtain ⟨ad1, e1, x10, x11⟩ := at_T43 HR1.out (rd rk (i : Int)) m3.1 m3.2
      cases e0
      cases e1
      cases e2
      cases e3
      rw [Int.toNat_natCast] at x2 x3
      have p4 : ((0 : Int) ≤ rd lk (i : Int)) = True := eq_true m2.1
      have q4 : (rd lk (i : Int) < (U : Int)) = True := eq_true (by have := HNN.out.2.2.1; omega)
      have p5 : ((0 : Int) ≤ rd rk (i : Int)) = True := eq_true m3.1
      have q5 : (rd rk (i : Int) < (V : Int)) = True := eq_true (by have := HNN.out.2.2.2; omega)
      have hG := mB_gone (l := l) (r := r) (lk := lk) (rk := rk) (i := i) (by have := HNN.out.1; omega)
      have hO := mB_no (l := l) (r := r) (lk := lk) (rk := rk) (i := i) (by have := HNN.out.1; omega) HN.out
      have hZ : (rd_T43 l (rd lk (i : Int))).f0 = false → rd_T43 l (rd lk (i : Int)) = rd_T43 r (rd rk (i : Int)) → SameTo l r lk rk (i + 1) := fun a b j hj => by
        rcases Nat.lt_or_ge j i with h | h
        · exact HP.out j h
        · obtain rfl : j = i := by omega
          exact ⟨a, b⟩
      obtain ⟨a, ha⟩ : ∃ a, a = rd lk (i : Int) := ⟨_, rfl⟩
      obtain ⟨b, hb⟩ : ∃ a, a = rd rk (i : Int) := ⟨_, rfl⟩
      rw [← ha] at x2 x00 x01 p4 q4 hG hO hZ
      rw [← hb] at x3 x10 x11 p5 q5 hO hZ
      obtain ⟨x, hx⟩ : ∃ x, x = rd_T43 l a := ⟨_, rfl⟩
      obtain ⟨y, hy⟩ : ∃ x, x = rd_T43 r b := ⟨_, rfl⟩
      rw [← hx] at x00 x01 hG hO hZ
      rw [← hy] at x10 x11 hO hZ
      have HG := Aside0.mk hG
      have HO := Aside0.mk hO
      have HZ := Aside0.mk hZ
      have HI1 : Aside0 ((i : Int) + 1 = ((i + 1 : Nat) : Int)) := ⟨by omega⟩
      clear m2 m3 ha hb hx hy hG hO hZ ci ci2
      by_cases hx0 : x.f0 = true
      · have HG1 := Aside0.mk (HG.out hx0)
        rw [hx0] at x00
        clear hx0
        go_wp2
        repeat (go_quiet (fail); try go_wp2)
        go_ret
        exact ⟨by rw [HRES.out, HG1.out]; rfl, by repeat (first | exact Drawn0.refl _ | apply Drawn0.step)⟩
      · have hx1 : x.f0 = false := by simpa using hx0
        have hs := s43_split (y := y) hx1
        have HX1 := Aside0.mk hx1
        rw [hx1] at x00
        obtain ⟨b0, hb0⟩ : ∃ b, b = y.f0 := ⟨_, rfl⟩
        obtain ⟨s0, hs0⟩ : ∃ b, b = x.f1 := ⟨_, rfl⟩
        obtain ⟨s1, hs1⟩ : ∃ b, b = y.f1 := ⟨_, rfl⟩
        rw [← hb0] at x10 hs
        rw [← hs0] at x01 hs
        rw [← hs1] at x11 hs
        clear hx0 hx1 hb0 hs0 hs1
        by_cases hxy : x = y
        · rw [decide_eq_true hxy, Bool.not_true, Bool.or_eq_false_iff] at hs
          obtain ⟨hsa, hsb⟩ := hs
          subst hsa
          have HS1 := Aside0.mk (HZ.out HX1.out hxy)
          clear hxy
          go_wp2
          repeat (go_quiet (fail); try go_wp2)
          go_roundg k1
          case measure => omega
          case rel => exact ⟨i + 1, by rw [wi, HI1.out], ⟨by have := HI.out; omega⟩, HS1, by repeat (first | exact Drawn0.refl _ | apply Drawn0.step)⟩
        · rw [decide_eq_false hxy, Bool.not_false] at hs
          have HO1 := Aside0.mk (HO.out hxy)
          clear hxy
          go_wp2
          repeat (go_quiet (fail); try go_wp2)
          go_ret
          exact ⟨by rw [HRES.out, HO1.out]; first | rfl | (simp; done) | (simp [*]; done), by repeat (first | exact Drawn0.refl _ | apply Drawn0.step)⟩
end Go.Proofs.Ytcbjkejboegmlaa.HW
