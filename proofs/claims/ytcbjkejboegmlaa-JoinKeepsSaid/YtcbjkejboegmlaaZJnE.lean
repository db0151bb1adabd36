import Derived.Test.YtcbjkejboegmlaaZJnR
import Derived.Test.YtcbjkejboegmlaaZPx4
import Derived.Test.YtcbjkejboegmlaaZPx3
/- join.Right, walked; the references Right and Same, plain. -/
set_option linter.unusedVariables false
set_option linter.unusedSimpArgs false
namespace Go.Proofs.Ytcbjkejboegmlaa.HW
open Go.RowKit Go.Proofs.Ytcbjkejboegmlaa.P Go.Proofs.Ytcbjkejboegmlaa.HP Go.Proofs.YtcbjkejboegmlaaW.PrintWords Go.Proofs.YtcbjkejboegmlaaW.PrintLast Go.Proofs.YtcbjkejboegmlaaW.PrintMore
attribute [local go_sem] max2_int min2_int max_two min_two max_three min_three max_four min_four
def rightB (kind : Int) (lk rk : List Int) (lc rc : Int) : Bool := decide (1 ≤ kind) && (decide (kind ≤ 4) && (decide (lk.length = rk.length) && (decide (1 ≤ lk.length) && (decide (lk.length ≤ 8) && (!lk.any (pC lc) && !rk.any (pC rc))))))
theorem same17_l (a b : List S43) (hl : a.length = b.length) (hn : a.length ≤ 1000000) : ∀ (d i : Nat), i + d = a.length → Ev (fun k => hopperref17_Same.l0 k a b (i : Int)) (decide (a.drop i = b.drop i)) := by
  intro d
  induction d with
  | zero =>
    intro i hi
    refine Ev.step (fun k => by rw [hopperref17_Same.l0]) ?_
    simp only [if_neg (show ¬ (i : Int) < (a.length : Int) by omega)]
    rw [List.drop_eq_nil_of_le (by omega), List.drop_eq_nil_of_le (by omega)]
    exact Ev.now _
  | succ d ih =>
    intro i hi
    have w1 : wrap64 ((i : Int) + 1) = ((i + 1 : Nat) : Int) := wr1 i (by omega)
    refine Ev.step (fun k => by rw [hopperref17_Same.l0]) ?_
    have ha : i < a.length := by omega
    have hb : i < b.length := by omega
    simp only [if_pos (show (i : Int) < (a.length : Int) by omega), if_pos (show (0 : Int) ≤ (i : Int) by omega), if_pos (show (i : Int) < (b.length : Int) by omega), w1, s43_ne, rd43 a i ha, rd43 b i hb]
    rw [List.drop_eq_getElem_cons ha, List.drop_eq_getElem_cons hb]
    by_cases h : a[i] = b[i]
    · simp only [h, decide_true, Bool.not_true, Bool.false_eq_true, if_false]
      have e : decide (b[i] :: a.drop (i + 1) = b[i] :: b.drop (i + 1)) = decide (a.drop (i + 1) = b.drop (i + 1)) := decide_eq_decide.2 ⟨fun h => by injection h, fun h => by rw [h]⟩
      rw [e]
      exact ih (i + 1) (by omega)
    · have e : decide (a[i] :: a.drop (i + 1) = b[i] :: b.drop (i + 1)) = false := decide_eq_false (by intro hc; injection hc with h1 _; exact h h1)
      rw [e]
      simp only [h, decide_false, Bool.not_false, if_true]
      exact Ev.now _
theorem same17 (a b : List S43) (hn : a.length ≤ 1000000) : Ev (fun k => hopperref17_Same.f k a b) (decide (a = b)) := by
  unfold hopperref17_Same.f
  by_cases h : a.length = b.length
  · simp only [if_pos (show (a.length : Int) = (b.length : Int) by omega)]
    have := same17_l a b h hn _ 0 (Nat.zero_add _)
    simpa using this
  · simp only [if_neg (show ¬ (a.length : Int) = (b.length : Int) by omega)]
    rw [decide_eq_false (fun e => h (by rw [e]))]
    exact Ev.now _
theorem rdL (l : List Key) (i : Nat) (h : i < l.length) : rd_L3 l (i : Int) = l[i] := by rw [rdL_get]; simp [List.getD_eq_getElem?_getD, h]
theorem same18_l (a b : List Key) (hl : a.length = b.length) (hn : a.length ≤ 1000000) (hr : ∀ row ∈ a, row.length ≤ 1000000) : ∀ (d i : Nat), i + d = a.length → Ev (fun k => hopperref18_Same.l0 k a b (i : Int)) (decide (a.drop i = b.drop i)) := by
  intro d
  induction d with
  | zero =>
    intro i hi
    refine Ev.step (fun k => by rw [hopperref18_Same.l0]) ?_
    simp only [if_neg (show ¬ (i : Int) < (a.length : Int) by omega)]
    rw [List.drop_eq_nil_of_le (by omega), List.drop_eq_nil_of_le (by omega)]
    exact Ev.now _
  | succ d ih =>
    intro i hi
    have w1 : wrap64 ((i : Int) + 1) = ((i + 1 : Nat) : Int) := wr1 i (by omega)
    refine Ev.step (fun k => by rw [hopperref18_Same.l0]) ?_
    have ha : i < a.length := by omega
    have hb : i < b.length := by omega
    simp only [if_pos (show (i : Int) < (a.length : Int) by omega), if_pos (show (0 : Int) ≤ (i : Int) by omega), if_pos (show (i : Int) < (b.length : Int) by omega), w1, rdL a i ha, rdL b i hb]
    refine Ev.bind (same17 a[i] b[i] (hr _ (List.getElem_mem ha))) ?_
    rw [List.drop_eq_getElem_cons ha, List.drop_eq_getElem_cons hb]
    by_cases h : a[i] = b[i]
    · simp only [h, decide_true, if_true]
      have e : decide (b[i] :: a.drop (i + 1) = b[i] :: b.drop (i + 1)) = decide (a.drop (i + 1) = b.drop (i + 1)) := decide_eq_decide.2 ⟨fun h => by injection h, fun h => by rw [h]⟩
      rw [e]
      exact ih (i + 1) (by omega)
    · have e : decide (a[i] :: a.drop (i + 1) = b[i] :: b.drop (i + 1)) = false := decide_eq_false (by intro hc; injection hc with h1 _; exact h h1)
      rw [e]
      simp only [h, decide_false, Bool.false_eq_true, if_false]
      exact Ev.now _
theorem same18 (a b : List Key) (hn : a.length ≤ 1000000) (hr : ∀ row ∈ a, row.length ≤ 1000000) : Ev (fun k => hopperref18_Same.f k a b) (decide (a = b)) := by
  unfold hopperref18_Same.f
  by_cases h : a.length = b.length
  · simp only [if_pos (show (a.length : Int) = (b.length : Int) by omega)]
    have := same18_l a b h hn hr _ 0 (Nat.zero_add _)
    simpa using this
  · simp only [if_neg (show ¬ (a.length : Int) = (b.length : Int) by omega)]
    rw [decide_eq_false (fun e => h (by rw [e]))]
    exact Ev.now _
theorem rright_l (lk rk : List Int) (lc rc : Int) (hl : lk.length = rk.length) (hn : lk.length ≤ 1000) : ∀ (d i : Nat), i + d = lk.length → Ev (fun k => hopperref23_Right.l0 k lk rk lc rc (i : Int)) (!(lk.drop i).any (pC lc) && !(rk.drop i).any (pC rc)) := by
  intro d
  induction d with
  | zero =>
    intro i hi
    refine Ev.step (fun k => by rw [hopperref23_Right.l0]) ?_
    simp only [if_neg (show ¬ (i : Int) < (lk.length : Int) by omega)]
    rw [List.drop_eq_nil_of_le (by omega), List.drop_eq_nil_of_le (by omega)]
    exact Ev.now _
  | succ d ih =>
    intro i hi
    have w1 : wrap64 ((i : Int) + 1) = ((i + 1 : Nat) : Int) := wr1 i (by omega)
    refine Ev.step (fun k => by rw [hopperref23_Right.l0]) ?_
    have ha : i < lk.length := by omega
    have hb : i < rk.length := by omega
    have e1 : rd lk (i : Int) = lk[i] := rd_nat lk i ha
    have e2 : rd rk (i : Int) = rk[i] := rd_nat rk i hb
    simp only [if_pos (show (i : Int) < (lk.length : Int) by omega), if_pos (show (0 : Int) ≤ (i : Int) by omega), if_pos (show (i : Int) < (rk.length : Int) by omega), w1, e1, e2]
    rw [List.drop_eq_getElem_cons ha, List.drop_eq_getElem_cons hb, List.any_cons, List.any_cons]
    have p1 : pC lc lk[i] = (decide (lk[i] < 0) || decide (lc ≤ lk[i])) := rfl
    have p2 : pC rc rk[i] = (decide (rk[i] < 0) || decide (rc ≤ rk[i])) := rfl
    rw [p1, p2]
    by_cases h1 : lk[i] < 0
    · simp only [if_pos h1, decide_eq_true h1, Bool.true_or, Bool.not_true, Bool.false_and]
      exact Ev.now _
    · by_cases h2 : lk[i] ≥ lc
      · simp only [if_neg h1, if_pos h2, decide_eq_true (show lc ≤ lk[i] from h2), Bool.or_true, Bool.true_or, Bool.not_true, Bool.false_and]
        exact Ev.now _
      · by_cases h3 : rk[i] < 0
        · simp only [if_neg h1, if_neg h2, if_pos h3, decide_eq_true h3, Bool.true_or, Bool.not_true, Bool.and_false]
          exact Ev.now _
        · by_cases h4 : rk[i] ≥ rc
          · simp only [if_neg h1, if_neg h2, if_neg h3, if_pos h4, decide_eq_true (show rc ≤ rk[i] from h4), Bool.or_true, Bool.true_or, Bool.not_true, Bool.and_false]
            exact Ev.now _
          · simp only [if_neg h1, if_neg h2, if_neg h3, if_neg h4, decide_eq_false h1, decide_eq_false (show ¬ lc ≤ lk[i] from h2), decide_eq_false h3, decide_eq_false (show ¬ rc ≤ rk[i] from h4), Bool.or_self, Bool.false_or]
            exact ih (i + 1) (by omega)
theorem rright_f (kind : Int) (lk rk : List Int) (lc rc : Int) : Ev (fun k => hopperref23_Right.f k kind lk rk lc rc) (rightB kind lk rk lc rc) := by
  unfold hopperref23_Right.f rightB
  have hj : Ev (fun k => hopperref23_Right.j0 k lk rk lc rc true) false := by
    refine Ev.step (fun k => by rw [hopperref23_Right.j0]) ?_
    simp only [if_true]
    exact Ev.now _
  by_cases h1 : kind < 1
  · simp only [if_pos h1, decide_eq_false (show ¬ 1 ≤ kind by omega), Bool.false_and]
    exact hj
  · by_cases h2 : kind > 4
    · simp only [if_neg h1, if_pos h2, decide_eq_false (show ¬ kind ≤ 4 by omega), Bool.false_and, Bool.and_false]
      exact hj
    · by_cases h3 : lk.length = rk.length
      · by_cases h4 : lk.length < 1
        · simp only [if_neg h1, if_neg h2, if_pos (show (lk.length : Int) = (rk.length : Int) by omega), if_pos (show (lk.length : Int) < 1 by omega), decide_eq_false (show ¬ 1 ≤ lk.length by omega), Bool.false_and, Bool.and_false]
          exact hj
        · by_cases h5 : lk.length ≤ 8
          · simp only [if_neg h1, if_neg h2, if_pos (show (lk.length : Int) = (rk.length : Int) by omega), if_neg (show ¬ (lk.length : Int) < 1 by omega), decide_eq_false (show ¬ (lk.length : Int) > 8 by omega), decide_eq_true (show 1 ≤ kind by omega), decide_eq_true (show kind ≤ 4 by omega), decide_eq_true h3, decide_eq_true (show 1 ≤ lk.length by omega), decide_eq_true h5, Bool.true_and]
            refine Ev.step (fun k => by rw [hopperref23_Right.j0]) ?_
            simp only [Bool.false_eq_true, if_false]
            have h9 := rright_l lk rk lc rc h3 (by omega) _ 0 (Nat.zero_add _)
            simpa using h9
          · simp only [if_neg h1, if_neg h2, if_pos (show (lk.length : Int) = (rk.length : Int) by omega), if_neg (show ¬ (lk.length : Int) < 1 by omega), decide_eq_true (show (lk.length : Int) > 8 by omega), decide_eq_false h5, Bool.false_and, Bool.and_false]
            exact hj
      · simp only [if_neg h1, if_neg h2, if_neg (show ¬ (lk.length : Int) = (rk.length : Int) by omega), decide_eq_false h3, Bool.false_and, Bool.and_false]
        exact hj
set_option maxHeartbeats 8000000 in
set_option maxRecDepth 100000 in
theorem Right_no0 (kind : Int) (A1 : Option Addr) (c1 : Nat) (lk : List Int) (A2 : Option Addr) (c2 : Nat) (rk : List Int) (lc rc : Int) (w : World) (h1 : Kd.C (Kd.int .i64) w A1 lk.length lk) (h2 : Kd.C (Kd.int .i64) w A2 rk.length rk) (hyp : ¬ 1 ≤ kind) :
    Calls Try.prog 13 #[.int .i64 kind, .slice A1 lk.length c1, .slice A2 rk.length c2, .int .i64 lc, .int .i64 rc] w fun e w' => e = .returned (.bool false) ∧ Below w.heap.size w w' := by
  obtain ⟨NL, hNL⟩ : ∃ N, N = lk.length := ⟨_, rfl⟩
  obtain ⟨NR, hNR⟩ : ∃ N, N = rk.length := ⟨_, rfl⟩
  rw [← hNL, ← hNR]
  have t0 : decide (1 ≤ kind) = false := decide_eq_false (by omega)
  clear h1 h2 hyp hNL hNR
  have HB := Aside0.mk (Below.refl w.heap.size w)
  go_enter Try.func13, Try.ntmps13
  go_wp2_with fail
  go_ret
  exact ⟨rfl, by repeat (first | exact HB.out | apply pw_below_drewN | apply below_drew1)⟩
set_option maxHeartbeats 8000000 in
set_option maxRecDepth 100000 in
theorem Right_no1 (kind : Int) (A1 : Option Addr) (c1 : Nat) (lk : List Int) (A2 : Option Addr) (c2 : Nat) (rk : List Int) (lc rc : Int) (w : World) (h1 : Kd.C (Kd.int .i64) w A1 lk.length lk) (h2 : Kd.C (Kd.int .i64) w A2 rk.length rk) (hyp : 1 ≤ kind ∧ ¬ kind ≤ 4) :
    Calls Try.prog 13 #[.int .i64 kind, .slice A1 lk.length c1, .slice A2 rk.length c2, .int .i64 lc, .int .i64 rc] w fun e w' => e = .returned (.bool false) ∧ Below w.heap.size w w' := by
  obtain ⟨NL, hNL⟩ : ∃ N, N = lk.length := ⟨_, rfl⟩
  obtain ⟨NR, hNR⟩ : ∃ N, N = rk.length := ⟨_, rfl⟩
  rw [← hNL, ← hNR]
  have t0 : decide (1 ≤ kind) = true := decide_eq_true (by omega)
  have t1 : decide (kind ≤ 4) = false := decide_eq_false (by omega)
  clear h1 h2 hyp hNL hNR
  have HB := Aside0.mk (Below.refl w.heap.size w)
  go_enter Try.func13, Try.ntmps13
  go_wp2_with fail
  go_ret
  exact ⟨rfl, by repeat (first | exact HB.out | apply pw_below_drewN | apply below_drew1)⟩
set_option maxHeartbeats 8000000 in
set_option maxRecDepth 100000 in
theorem Right_no2 (kind : Int) (A1 : Option Addr) (c1 : Nat) (lk : List Int) (A2 : Option Addr) (c2 : Nat) (rk : List Int) (lc rc : Int) (w : World) (h1 : Kd.C (Kd.int .i64) w A1 lk.length lk) (h2 : Kd.C (Kd.int .i64) w A2 rk.length rk) (hyp : 1 ≤ kind ∧ kind ≤ 4 ∧ ¬ lk.length = rk.length) :
    Calls Try.prog 13 #[.int .i64 kind, .slice A1 lk.length c1, .slice A2 rk.length c2, .int .i64 lc, .int .i64 rc] w fun e w' => e = .returned (.bool false) ∧ Below w.heap.size w w' := by
  obtain ⟨NL, hNL⟩ : ∃ N, N = lk.length := ⟨_, rfl⟩
  obtain ⟨NR, hNR⟩ : ∃ N, N = rk.length := ⟨_, rfl⟩
  rw [← hNL] at hyp ⊢
  rw [← hNR] at hyp ⊢
  have t0 : decide (1 ≤ kind) = true := decide_eq_true (by omega)
  have t1 : decide (kind ≤ 4) = true := decide_eq_true (by omega)
  have t2 : ((NL : Int) == (NR : Int)) = false := by rw [beq_eq_false_iff_ne]; omega
  have t2n : (NL == NR) = false := by rw [beq_eq_false_iff_ne]; omega
  clear h1 h2 hyp hNL hNR
  have HB := Aside0.mk (Below.refl w.heap.size w)
  go_enter Try.func13, Try.ntmps13
  go_wp2_with fail
  go_ret
  exact ⟨rfl, by repeat (first | exact HB.out | apply pw_below_drewN | apply below_drew1)⟩
set_option maxHeartbeats 8000000 in
set_option maxRecDepth 100000 in
theorem Right_no3 (kind : Int) (A1 : Option Addr) (c1 : Nat) (lk : List Int) (A2 : Option Addr) (c2 : Nat) (rk : List Int) (lc rc : Int) (w : World) (h1 : Kd.C (Kd.int .i64) w A1 lk.length lk) (h2 : Kd.C (Kd.int .i64) w A2 rk.length rk) (hyp : 1 ≤ kind ∧ kind ≤ 4 ∧ lk.length = rk.length ∧ ¬ 1 ≤ lk.length) :
    Calls Try.prog 13 #[.int .i64 kind, .slice A1 lk.length c1, .slice A2 rk.length c2, .int .i64 lc, .int .i64 rc] w fun e w' => e = .returned (.bool false) ∧ Below w.heap.size w w' := by
  obtain ⟨NL, hNL⟩ : ∃ N, N = lk.length := ⟨_, rfl⟩
  obtain ⟨NR, hNR⟩ : ∃ N, N = rk.length := ⟨_, rfl⟩
  rw [← hNL] at hyp ⊢
  rw [← hNR] at hyp ⊢
  have t0 : decide (1 ≤ kind) = true := decide_eq_true (by omega)
  have t1 : decide (kind ≤ 4) = true := decide_eq_true (by omega)
  have t2 : ((NL : Int) == (NR : Int)) = true := by rw [beq_iff_eq]; omega
  have t2n : (NL == NR) = true := by rw [beq_iff_eq]; omega
  have t3 : decide (1 ≤ (NL : Int)) = false := decide_eq_false (by omega)
  have t3n : decide (1 ≤ NL) = false := decide_eq_false (by omega)
  have t3p : decide (0 < NL) = false := decide_eq_false (by omega)
  clear h1 h2 hyp hNL hNR
  have HB := Aside0.mk (Below.refl w.heap.size w)
  go_enter Try.func13, Try.ntmps13
  go_wp2_with fail
  go_ret
  exact ⟨rfl, by repeat (first | exact HB.out | apply pw_below_drewN | apply below_drew1)⟩
set_option maxHeartbeats 8000000 in
set_option maxRecDepth 100000 in
theorem Right_no4 (kind : Int) (A1 : Option Addr) (c1 : Nat) (lk : List Int) (A2 : Option Addr) (c2 : Nat) (rk : List Int) (lc rc : Int) (w : World) (h1 : Kd.C (Kd.int .i64) w A1 lk.length lk) (h2 : Kd.C (Kd.int .i64) w A2 rk.length rk) (hyp : 1 ≤ kind ∧ kind ≤ 4 ∧ lk.length = rk.length ∧ 1 ≤ lk.length ∧ ¬ lk.length ≤ 8) :
    Calls Try.prog 13 #[.int .i64 kind, .slice A1 lk.length c1, .slice A2 rk.length c2, .int .i64 lc, .int .i64 rc] w fun e w' => e = .returned (.bool false) ∧ Below w.heap.size w w' := by
  obtain ⟨NL, hNL⟩ : ∃ N, N = lk.length := ⟨_, rfl⟩
  obtain ⟨NR, hNR⟩ : ∃ N, N = rk.length := ⟨_, rfl⟩
  rw [← hNL] at hyp ⊢
  rw [← hNR] at hyp ⊢
  have t0 : decide (1 ≤ kind) = true := decide_eq_true (by omega)
  have t1 : decide (kind ≤ 4) = true := decide_eq_true (by omega)
  have t2 : ((NL : Int) == (NR : Int)) = true := by rw [beq_iff_eq]; omega
  have t2n : (NL == NR) = true := by rw [beq_iff_eq]; omega
  have t3 : decide (1 ≤ (NL : Int)) = true := decide_eq_true (by omega)
  have t3n : decide (1 ≤ NL) = true := decide_eq_true (by omega)
  have t3p : decide (0 < NL) = true := decide_eq_true (by omega)
  have t4 : decide ((NL : Int) ≤ 8) = false := decide_eq_false (by omega)
  have t4n : decide (NL ≤ 8) = false := decide_eq_false (by omega)
  clear h1 h2 hyp hNL hNR
  have HB := Aside0.mk (Below.refl w.heap.size w)
  go_enter Try.func13, Try.ntmps13
  go_wp2_with fail
  go_ret
  exact ⟨rfl, by repeat (first | exact HB.out | apply pw_below_drewN | apply below_drew1)⟩
set_option maxHeartbeats 8000000 in
set_option maxRecDepth 100000 in
theorem Right_yes (kind : Int) (A1 : Option Addr) (c1 : Nat) (lk : List Int) (A2 : Option Addr) (c2 : Nat) (rk : List Int) (lc rc : Int) (w : World) (h1 : Kd.C (Kd.int .i64) w A1 lk.length lk) (h2 : Kd.C (Kd.int .i64) w A2 rk.length rk) (hyp : 1 ≤ kind ∧ kind ≤ 4 ∧ lk.length = rk.length ∧ 1 ≤ lk.length ∧ lk.length ≤ 8) :
    Calls Try.prog 13 #[.int .i64 kind, .slice A1 lk.length c1, .slice A2 rk.length c2, .int .i64 lc, .int .i64 rc] w fun e w' => e = .returned (.bool (!lk.any (pC lc) && !rk.any (pC rc))) ∧ Below w.heap.size w w' := by
  have H1 := Aside0.mk (fun W (h : Below w.heap.size w W) => Columns_ A1 c1 lk lc W (Kd.C_below h1 h))
  have H2 := Aside0.mk (fun W (h : Below w.heap.size w W) => Columns_ A2 c2 rk rc W (Kd.C_below h2 h))
  obtain ⟨b1, hb1⟩ : ∃ b, b = !lk.any (pC lc) := ⟨_, rfl⟩
  obtain ⟨b2, hb2⟩ : ∃ b, b = !rk.any (pC rc) := ⟨_, rfl⟩
  rw [← hb1] at H1 ⊢
  rw [← hb2] at H2 ⊢
  clear h1 h2 hb1 hb2
  obtain ⟨NL, hNL⟩ : ∃ N, N = lk.length := ⟨_, rfl⟩
  obtain ⟨NR, hNR⟩ : ∃ N, N = rk.length := ⟨_, rfl⟩
  rw [← hNL] at hyp H1 ⊢
  rw [← hNR] at hyp H2 ⊢
  have t0 : decide (1 ≤ kind) = true := decide_eq_true (by omega)
  have t1 : decide (kind ≤ 4) = true := decide_eq_true (by omega)
  have t2 : ((NL : Int) == (NR : Int)) = true := by rw [beq_iff_eq]; omega
  have t2n : (NL == NR) = true := by rw [beq_iff_eq]; omega
  have t3 : decide (1 ≤ (NL : Int)) = true := decide_eq_true (by omega)
  have t3n : decide (1 ≤ NL) = true := decide_eq_true (by omega)
  have t3p : decide (0 < NL) = true := decide_eq_true (by omega)
  have t4 : decide ((NL : Int) ≤ 8) = true := decide_eq_true (by omega)
  have t4n : decide (NL ≤ 8) = true := decide_eq_true (by omega)
  clear hyp hNL hNR
  have HB := Aside0.mk (Below.refl w.heap.size w)
  go_enter Try.func13, Try.ntmps13
  go_wp2_with fail
  refine (H1.out _ (by repeat (first | exact HB.out | apply pw_below_drewN | apply below_drew1))).mono ?_
  rintro e w1 ⟨rfl, hb1⟩
  have HB1 := Aside0.mk (below_step HB.out hb1)
  clear hb1 HB
  cases b1 with
  | false =>
    go_wp2_with fail
    go_ret
    exact ⟨rfl, by repeat (first | exact HB1.out | apply pw_below_drewN | apply below_drew1)⟩
  | true =>
    go_wp2_with fail
    refine (H2.out _ (by repeat (first | exact HB1.out | apply pw_below_drewN | apply below_drew1))).mono ?_
    rintro e w2 ⟨rfl, hb2⟩
    have HB2 := Aside0.mk (below_step HB1.out hb2)
    clear hb2 HB1
    go_wp2_with fail
    go_ret
    exact ⟨rfl, by repeat (first | exact HB2.out | apply pw_below_drewN | apply below_drew1)⟩
theorem Right_all (kind : Int) (A1 : Option Addr) (c1 : Nat) (lk : List Int) (A2 : Option Addr) (c2 : Nat) (rk : List Int) (lc rc : Int) (w : World) (h1 : Kd.C (Kd.int .i64) w A1 lk.length lk) (h2 : Kd.C (Kd.int .i64) w A2 rk.length rk)  :
    Calls Try.prog 13 #[.int .i64 kind, .slice A1 lk.length c1, .slice A2 rk.length c2, .int .i64 lc, .int .i64 rc] w fun e w' => e = .returned (.bool (rightB kind lk rk lc rc)) ∧ Below w.heap.size w w' := by
  unfold rightB
  by_cases c1' : 1 ≤ kind
  · by_cases c2' : kind ≤ 4
    · by_cases c3' : lk.length = rk.length
      · by_cases c4' : 1 ≤ lk.length
        · by_cases c5' : lk.length ≤ 8
          · simp only [decide_eq_true c1', decide_eq_true c2', decide_eq_true c3', decide_eq_true c4', decide_eq_true c5', Bool.true_and]
            exact Right_yes kind A1 c1 lk A2 c2 rk lc rc w h1 h2 ⟨c1', c2', c3', c4', c5'⟩
          · simp only [decide_eq_false c5', Bool.false_and, Bool.and_false]
            exact Right_no4 kind A1 c1 lk A2 c2 rk lc rc w h1 h2 ⟨c1', c2', c3', c4', c5'⟩
        · simp only [decide_eq_false c4', Bool.false_and, Bool.and_false]
          exact Right_no3 kind A1 c1 lk A2 c2 rk lc rc w h1 h2 ⟨c1', c2', c3', c4'⟩
      · simp only [decide_eq_false c3', Bool.false_and, Bool.and_false]
        exact Right_no2 kind A1 c1 lk A2 c2 rk lc rc w h1 h2 ⟨c1', c2', c3'⟩
    · simp only [decide_eq_false c2', Bool.false_and, Bool.and_false]
      exact Right_no1 kind A1 c1 lk A2 c2 rk lc rc w h1 h2 ⟨c1', c2'⟩
  · simp only [decide_eq_false c1', Bool.false_and]
    exact Right_no0 kind A1 c1 lk A2 c2 rk lc rc w h1 h2 c1'
end Go.Proofs.Ytcbjkejboegmlaa.HW
