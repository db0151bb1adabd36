import Derived.Test.YtcbjkejboegmlaaZJnD
/- join.Rows. -/
set_option linter.unusedVariables false
set_option linter.unusedSimpArgs false
namespace Go.Proofs.Ytcbjkejboegmlaa.HW
open Go.RowKit Go.Proofs.Ytcbjkejboegmlaa.P Go.Proofs.Ytcbjkejboegmlaa.HP Go.Proofs.YtcbjkejboegmlaaW.PrintWords Go.Proofs.YtcbjkejboegmlaaW.PrintLast Go.Proofs.YtcbjkejboegmlaaW.PrintMore
attribute [local go_sem] max2_int min2_int max_two min_two max_three min_three max_four min_four
/-- The joined rows of the first i left ones. -/
def accL (kind : Int) (l r : List Key) (ms : List (List Int)) (n : Nat) (i : Nat) : List Key := (List.range i).flatMap (fun j => joinedL kind (l.getD j []) r (ms.getD j []) n)
def rowsL (kind : Int) (l r : List Key) (lk rk : List Int) (n : Nat) : List Key := accL kind l r (matchL (keysOf l lk) (keysOf r rk)) n l.length
theorem accL_succ (kind : Int) (l r : List Key) (ms : List (List Int)) (n i : Nat) : accL kind l r ms n (i + 1) = accL kind l r ms n i ++ joinedL kind (l.getD i []) r (ms.getD i []) n := by
  unfold accL
  rw [List.range_succ, List.flatMap_append]
  simp
theorem accL_le (kind : Int) (l r : List Key) (ms : List (List Int)) (n : Nat) {i j : Nat} (h : i ≤ j) : (accL kind l r ms n i).length ≤ (accL kind l r ms n j).length := by
  induction j with
  | zero => rw [show i = 0 by omega]; exact Nat.le_refl _
  | succ j ih =>
    rcases Nat.lt_or_ge j i with h1 | h1
    · rw [show i = j + 1 by omega]; exact Nat.le_refl _
    · rw [accL_succ, List.length_append]
      have := ih h1
      omega
theorem joinedL_len (kind : Int) (row : Key) (r : List Key) (at_ : List Int) (n : Nat) : (joinedL kind row r at_ n).length ≤ at_.length + 1 := by
  unfold joinedL
  split
  · split <;> simp
  · split
    · split <;> simp
    · split
      · simp
      · simp
theorem accL_len (kind : Int) (l r : List Key) (ms : List (List Int)) (n : Nat) (hm : ∀ j, (ms.getD j []).length ≤ 400) : ∀ i, (accL kind l r ms n i).length ≤ 401 * i := by
  intro i
  induction i with
  | zero => simp [accL]
  | succ i ih =>
    rw [accL_succ, List.length_append]
    have h1 := joinedL_len kind (l.getD i []) r (ms.getD i []) n
    have h2 := hm i
    omega
theorem mrow_mem {rs : List Key} {key : Key} : ∀ i ∈ mrow rs key, 0 ≤ i ∧ i < (rs.length : Int) := by
  intro i hi
  unfold mrow at hi
  split at hi
  · simp at hi
  · obtain ⟨j, hj, rfl⟩ := List.mem_map.1 hi
    have := List.mem_range.1 (List.mem_filter.1 hj).1
    omega
theorem mrow_len (rs : List Key) (key : Key) : (mrow rs key).length ≤ rs.length := by
  unfold mrow
  split
  · simp
  · rw [List.length_map]
    exact Nat.le_trans (List.length_filter_le _ _) (by simp)
theorem matchL_at {ls rs : List Key} {j : Nat} (hj : j < ls.length) : (matchL ls rs).getD j [] = mrow rs (ls.getD j []) := by
  unfold matchL
  simp [List.getD_eq_getElem?_getD, hj]
theorem matchL_len (ls rs : List Key) : (matchL ls rs).length = ls.length := by unfold matchL; simp
theorem matchL_small (ls rs : List Key) (h : rs.length ≤ 400) (j : Nat) : ((matchL ls rs).getD j []).length ≤ 400 := by
  rcases Nat.lt_or_ge j ls.length with hj | hj
  · rw [matchL_at hj]
    have := mrow_len rs (ls.getD j [])
    omega
  · rw [show (matchL ls rs).getD j [] = [] by simp [List.getD_eq_getElem?_getD, matchL, hj]]
    simp
set_option maxHeartbeats 8000000 in
set_option maxRecDepth 100000 in
theorem Rows_ok (kind : Int) (A0 : Option Addr) (c0 : Nat) (l : List Key) (A1 : Option Addr) (c1 : Nat) (r : List Key) (A2 : Option Addr) (c2 : Nat) (lk : List Int) (A3 : Option Addr) (c3 : Nat) (rk : List Int) (n : Nat) (lim mx : Int) (w : World)
    (hl : Kd.C (Kd.slice 43 k43) w A0 l.length l) (hcl : l.length ≤ c0) (hr : Kd.C (Kd.slice 43 k43) w A1 r.length r) (hcr : r.length ≤ c1) (hlk : Kd.C (Kd.int .i64) w A2 lk.length lk) (hclk : lk.length ≤ c2) (hrk : Kd.C (Kd.int .i64) w A3 rk.length rk) (hcrk : rk.length ≤ c3)
    (hln : l.length ≤ 400 ∧ r.length ≤ 400 ∧ lk.length = rk.length ∧ lk.length ≤ 100) (hcL : ∀ row ∈ l, ∀ c ∈ lk, 0 ≤ c ∧ c < (row.length : Int)) (hcR : ∀ row ∈ r, ∀ c ∈ rk, 0 ≤ c ∧ c < (row.length : Int)) (hsL : ∀ row ∈ l, ∀ x ∈ row, x.f1.size ≤ 1000000) (hsR : ∀ row ∈ r, ∀ x ∈ row, x.f1.size ≤ 1000000)
    (hwL : ∀ row ∈ l, row.length ≤ 1000) (hwR : ∀ row ∈ r, row.length ≤ 1000) (hk : 1 ≤ kind ∧ kind ≤ 4) (hn : n ≤ 1000) (hmx : (if lim < 0 then (0 : Int) else lim) = mx) (hov : ((rowsL kind l r lk rk n).length : Int) ≤ mx) :
    Calls Try.prog 10 #[.int .i64 kind, .slice A0 l.length c0, .slice A1 r.length c1, .slice A2 lk.length c2, .slice A3 rk.length c3, .int .i64 (n : Int), .int .i64 lim] w fun e w' => ∃ v : Value, e = .returned (.tuple #[v, .int .i64 0]) ∧ Kd.R (Kd.slice 43 k43) 38 w' w.heap.size (fun _ => True) v (rowsL kind l r lk rk n) ∧ Below w.heap.size w w' := by
  have HM := Aside0.mk (fun W (h : Below w.heap.size w W) => Matches_ A0 c0 l A1 c1 r A2 c2 lk A3 c3 rk W (Kd.C_below hl h) hcl (Kd.C_below hr h) hcr (Kd.C_below hlk h) hclk (Kd.C_below hrk h) hcrk hln hcL hcR hsL hsR)
  have hmm := matchL_small (keysOf l lk) (keysOf r rk) (by rw [keysOf_len]; omega)
  have hml := matchL_len (keysOf l lk) (keysOf r rk)
  rw [keysOf_len] at hml
  have hmi : ∀ j, j < l.length → ∀ i ∈ (matchL (keysOf l lk) (keysOf r rk)).getD j [], 0 ≤ i ∧ i < (r.length : Int) := fun j hj => by
    rw [matchL_at (by rw [keysOf_len]; exact hj)]
    have h9 := mrow_mem (rs := keysOf r rk) (key := (keysOf l lk).getD j [])
    rw [keysOf_len] at h9
    exact h9
  unfold rowsL at hov
  unfold rowsL
  obtain ⟨ms, hms⟩ : ∃ ms, ms = matchL (keysOf l lk) (keysOf r rk) := ⟨_, rfl⟩
  rw [← hms] at HM hmm hml hmi hov ⊢
  have HML := Aside0.mk hml
  have HMI := Aside0.mk hmi
  have HAC := Aside0.mk (accL_len kind l r ms n hmm)
  have HMM := Aside0.mk hmm
  have HOV := Aside0.mk hov
  have HL := Aside0.mk hl
  have HR := Aside0.mk hr
  have HC := Aside0.mk (And.intro hcl hcr)
  have HWL := Aside0.mk hwL
  have HWR := Aside0.mk hwR
  have HLN := Aside0.mk hln
  have HK := Aside0.mk hk
  have HN := Aside0.mk hn
  have HB := Aside0.mk (Below.refl w.heap.size w)
  clear hl hcl hr hcr hlk hclk hrk hcrk hln hcL hcR hsL hsR hwL hwR hk hn hmm hml hmi hms hov
  go_enter Try.func10, Try.ntmps10
  go_wp2_with fail
  refine (HM.out _ (by repeat (first | exact HB.out | apply pw_below_drewN | apply below_drew1))).mono ?_
  rintro e w2 ⟨v23, rfl, ho23, hb2⟩
  obtain ⟨A23, c23, e23, hl23, hC23⟩ := Kd.R_reads ho23
  subst e23
  have HC23 := Aside0.mk hC23
  have HB2 := Aside0.mk (below_step HB.out hb2)
  have HB22 := Aside0.mk (Below.refl w2.heap.size w2)
  clear ho23 hb2 hl23 hC23 HB HM
  go_wp2_with fail
  go_loopg [16, 25] (ms.length : Nat) (fun kq v16 v25 w' => ∃ i : Nat, v25 = .int .i64 (i : Int) ∧ Aside0 (i + kq = ms.length) ∧ Aside0 (((accL kind l r ms n i).length : Int) ≤ mx) ∧ Aside0 (Kd.R (Kd.slice 43 k43) 38 w' w2.heap.size (fun _ => True) v16 (accL kind l r ms n i)) ∧ Aside0 (Below w2.heap.size w2 w'))
  case atStart => exact ⟨0, rfl, ⟨by omega⟩, ⟨by simp [accL]; rw [← hmx]; split <;> omega⟩, ⟨by simp only [accL, List.range_zero, List.flatMap_nil]; exact Kd.R_nil _ _ _ _ _⟩, ⟨by repeat (first | exact HB22.out | apply pw_below_drewN | apply below_drew1)⟩⟩
  case round =>
    clear HB22
    obtain ⟨i, rfl, HI, HMX, HO, HBW⟩ := hrel
    have HB := Aside0.mk (HB2.out.trans (HBW.out.mono (below_size HB2.out)))
    obtain ⟨vO, hvO⟩ : ∃ v, v = u16 := ⟨_, rfl⟩
    rw [← hvO] at HO ⊢
    clear hvO
    cases gk with
    | zero =>
      have cb : decide ((i : Int) < (ms.length : Int)) = false := decide_eq_false (by have := HI.out; omega)
      have cb2 : decide (i < ms.length) = false := decide_eq_false (by have := HI.out; omega)
      go_wp2_with fail
      go_ret2
      refine ⟨_, rfl, ?_, HB.out⟩
      have h9 := HO.out
      rw [show i = l.length by have := HI.out; have := HML.out; omega] at h9
      exact Kd.R_lower h9 (below_size HB2.out)
    | succ k1 =>
      have c_ : (i : Int) < (ms.length : Int) := by have := HI.out; omega
      have cn : i < ms.length := by omega
      have cb : decide ((i : Int) < (ms.length : Int)) = true := decide_eq_true c_
      have cb2 : decide (i < ms.length) = true := decide_eq_true cn
      have p0 : ((0 : Int) ≤ (i : Int)) = True := eq_true (by omega)
      have q0 : ((i : Int) < (ms.length : Int)) = True := eq_true c_
      have q0n : (i < ms.length) = True := eq_true cn
      have cl : i < l.length := by have := HML.out; omega
      have q1 : ((i : Int) < (l.length : Int)) = True := eq_true (by omega)
      have q1n : (i < l.length) = True := eq_true cl
      have HI1 : Aside0 (wrap64 ((i : Int) + 1) = ((i + 1 : Nat) : Int)) := ⟨by unfold wrap64; have := HLN.out; omega⟩
      obtain ⟨ad, cs, e1, hcs, ⟨A2', c2', hc2, hlc2, hC2⟩, hcell⟩ := Kd.C_get (Kd.C_below HC23.out HBW.out) ([] : List Int) (i : Int) (by omega) c_
      subst hc2
      have hx1 := hcell 0 _ rfl
      subst e1
      rw [Int.toNat_natCast] at hlc2 hC2
      simp only [Int.toNat_natCast, Nat.add_zero, show (Kd.slice 3 (Kd.int .i64)).sz = 1 from rfl, Nat.mul_one] at hx1
      obtain ⟨adl, Al, cl', e2, hy, hck, hCk⟩ := at_L3 (Kd.C_below HL.out HB.out) (i : Int) (by omega) (by omega)
      subst e2
      rw [rdL_get, Int.toNat_natCast] at hy
      rw [rdL_get] at hck hCk
      have hrow := HWL.out (l.getD i []) (getD_lt_mem l i cl)
      have hmi := HMI.out i cl
      have hmsm := HMM.out i
      have hstep := accL_succ kind l r ms n i
      have hal := HAC.out (i + 1)
      obtain ⟨row, hr0⟩ : ∃ row, row = l.getD i [] := ⟨_, rfl⟩
      obtain ⟨m, hm0⟩ : ∃ m, m = ms.getD i [] := ⟨_, rfl⟩
      rw [← hr0] at hy hck hCk hrow hstep
      rw [← hm0] at hlc2 hC2 hx1 hmi hstep hmsm
      have HJ := Aside0.mk (joined_all kind Al cl' row A1 c1 r A2' c2' m n wr hCk hck (Kd.C_below HR.out HB.out) HC.out.2 hC2 hlc2 ⟨hrow, HN.out, by omega⟩ hmi HWR.out HK.out)
      obtain ⟨J, hJ⟩ : ∃ J, J = joinedL kind row r m n := ⟨_, rfl⟩
      rw [← hJ] at HJ hstep
      obtain ⟨acc, hacc⟩ : ∃ acc, acc = accL kind l r ms n i := ⟨_, rfl⟩
      rw [← hacc] at hstep HO
      obtain ⟨acc2, hacc2⟩ : ∃ acc2, acc2 = accL kind l r ms n (i + 1) := ⟨_, rfl⟩
      rw [← hacc2] at hstep hal
      have HAL : Aside0 ((acc.length + J.length) * 24 ≤ 140737488355328) := ⟨by have h9 := congrArg List.length hstep; rw [List.length_append] at h9; have := HLN.out; omega⟩
      have HSTEP := Aside0.mk hstep
      have HACC := Aside0.mk hacc2
      clear c_ cl hcs hlc2 hC2 hcell hck hCk hrow hmi hmsm hal hr0 hm0 hJ hacc hacc2 hstep
      go_wp2_with fail
      refine HJ.out.mono ?_
      rintro e w8 ⟨v39, rfl, ho39, hb8⟩
      obtain ⟨A39, c39, e39, hl39, hrd⟩ := OwnRow.reads ho39.2
      subst e39
      have HRD := Aside0.mk hrd
      have HO8 := Aside0.mk (Kd.R_below HO.out hb8)
      have HB8 := Aside0.mk (HB.out.trans (hb8.mono (below_size HB.out)))
      have HBW8 := Aside0.mk (HBW.out.trans (hb8.mono (below_size HBW.out)))
      clear ho39 hl39 hrd hb8 hx1 hy HJ
      have hgt : (acc2.length : Int) ≤ mx := by
        have h1 := accL_le kind l r ms n (i := i + 1) (j := l.length) (by have := HML.out; have := HI.out; omega)
        have h2 := HOV.out
        rw [HACC.out]
        omega
      have tg : decide (mx < (acc2.length : Int)) = false := decide_eq_false (by omega)
      have HGT := Aside0.mk hgt
      clear hgt
      go_wp2_with (first | ((with_reducible refine gate_builtin (b := .append) (xs := #[.tmp 30, .tmp 39]) rfl ?_); at_builtin; refine Kd.R_append_rows (Kd.slice 43 k43) (Rr := (Kd.slice 43 k43).M w8 wr.heap.size (fun k => True ∧ some k ≠ (Value.slice A39 J.length c39).ownBlock)) (w0 := w2) w2.heap.size rfl (.tmp 30) (.tmp 39) 22 38 (.slice none 0 0) 24 rfl Try.underlying22 infoL rfl (by decide) (by omega) vO acc J A39 J.length c39 (fun _ => True) (fun k => wr.heap.size ≤ k) rfl rfl ?aO ?aR ?aK ?aP ?aF ?aB ?aS ?aL ?_; (case aO => exact HO8.out); (case aR => exact HRD.out); (case aK => exact (fun x cs h => (Kd.slice 43 k43).M_lower (below_size HBW.out) ((Kd.slice 43 k43).M_mono (fun k hk => hk.2.1) ((Kd.slice 43 k43).M_bound h)))); (case aP => exact (fun k hk => ⟨trivial, fun e => by have := Kd.R_lt HO.out k e.symm; omega⟩)); (case aF => exact (fun _ _ => trivial)); (case aB => exact HBW8.out); (case aS => exact below_size HBW8.out); (case aL => have h9 := HAL.out; omega); intro v40 w40 ho hb hg hat; rw [← HSTEP.out] at ho; obtain ⟨A40, c40, e40⟩ := Kd.R_slice ho; subst e40; have HO40 := Aside0.mk ho; have HB40 := Aside0.mk hb; clear ho hb hg hat))
      go_roundg k1
      case measure => omega
      case rel => exact ⟨i + 1, by first | rfl | (rw [HI1.out]), ⟨by have := HI.out; omega⟩, ⟨by rw [← HACC.out]; exact HGT.out⟩, ⟨by rw [← HACC.out]; exact HO40.out⟩, HB40⟩

set_option maxHeartbeats 8000000 in
set_option maxRecDepth 100000 in
theorem Rows_over (kind : Int) (A0 : Option Addr) (c0 : Nat) (l : List Key) (A1 : Option Addr) (c1 : Nat) (r : List Key) (A2 : Option Addr) (c2 : Nat) (lk : List Int) (A3 : Option Addr) (c3 : Nat) (rk : List Int) (n : Nat) (lim mx : Int) (w : World)
    (hl : Kd.C (Kd.slice 43 k43) w A0 l.length l) (hcl : l.length ≤ c0) (hr : Kd.C (Kd.slice 43 k43) w A1 r.length r) (hcr : r.length ≤ c1) (hlk : Kd.C (Kd.int .i64) w A2 lk.length lk) (hclk : lk.length ≤ c2) (hrk : Kd.C (Kd.int .i64) w A3 rk.length rk) (hcrk : rk.length ≤ c3)
    (hln : l.length ≤ 400 ∧ r.length ≤ 400 ∧ lk.length = rk.length ∧ lk.length ≤ 100) (hcL : ∀ row ∈ l, ∀ c ∈ lk, 0 ≤ c ∧ c < (row.length : Int)) (hcR : ∀ row ∈ r, ∀ c ∈ rk, 0 ≤ c ∧ c < (row.length : Int)) (hsL : ∀ row ∈ l, ∀ x ∈ row, x.f1.size ≤ 1000000) (hsR : ∀ row ∈ r, ∀ x ∈ row, x.f1.size ≤ 1000000)
    (hwL : ∀ row ∈ l, row.length ≤ 1000) (hwR : ∀ row ∈ r, row.length ≤ 1000) (hk : 1 ≤ kind ∧ kind ≤ 4) (hn : n ≤ 1000) (hmx : (if lim < 0 then (0 : Int) else lim) = mx) (hov : mx < ((rowsL kind l r lk rk n).length : Int)) :
    Calls Try.prog 10 #[.int .i64 kind, .slice A0 l.length c0, .slice A1 r.length c1, .slice A2 lk.length c2, .slice A3 rk.length c3, .int .i64 (n : Int), .int .i64 lim] w fun e w' => e = .returned (.tuple #[.slice none 0 0, .int .i64 6]) ∧ Below w.heap.size w w' := by
  have HM := Aside0.mk (fun W (h : Below w.heap.size w W) => Matches_ A0 c0 l A1 c1 r A2 c2 lk A3 c3 rk W (Kd.C_below hl h) hcl (Kd.C_below hr h) hcr (Kd.C_below hlk h) hclk (Kd.C_below hrk h) hcrk hln hcL hcR hsL hsR)
  have hmm := matchL_small (keysOf l lk) (keysOf r rk) (by rw [keysOf_len]; omega)
  have hml := matchL_len (keysOf l lk) (keysOf r rk)
  rw [keysOf_len] at hml
  have hmi : ∀ j, j < l.length → ∀ i ∈ (matchL (keysOf l lk) (keysOf r rk)).getD j [], 0 ≤ i ∧ i < (r.length : Int) := fun j hj => by
    rw [matchL_at (by rw [keysOf_len]; exact hj)]
    have h9 := mrow_mem (rs := keysOf r rk) (key := (keysOf l lk).getD j [])
    rw [keysOf_len] at h9
    exact h9
  unfold rowsL at hov
  obtain ⟨ms, hms⟩ : ∃ ms, ms = matchL (keysOf l lk) (keysOf r rk) := ⟨_, rfl⟩
  rw [← hms] at HM hmm hml hmi hov 
  have HML := Aside0.mk hml
  have HMI := Aside0.mk hmi
  have HAC := Aside0.mk (accL_len kind l r ms n hmm)
  have HMM := Aside0.mk hmm
  have HOV := Aside0.mk hov
  have HL := Aside0.mk hl
  have HR := Aside0.mk hr
  have HC := Aside0.mk (And.intro hcl hcr)
  have HWL := Aside0.mk hwL
  have HWR := Aside0.mk hwR
  have HLN := Aside0.mk hln
  have HK := Aside0.mk hk
  have HN := Aside0.mk hn
  have HB := Aside0.mk (Below.refl w.heap.size w)
  clear hl hcl hr hcr hlk hclk hrk hcrk hln hcL hcR hsL hsR hwL hwR hk hn hmm hml hmi hms hov
  go_enter Try.func10, Try.ntmps10
  go_wp2_with fail
  refine (HM.out _ (by repeat (first | exact HB.out | apply pw_below_drewN | apply below_drew1))).mono ?_
  rintro e w2 ⟨v23, rfl, ho23, hb2⟩
  obtain ⟨A23, c23, e23, hl23, hC23⟩ := Kd.R_reads ho23
  subst e23
  have HC23 := Aside0.mk hC23
  have HB2 := Aside0.mk (below_step HB.out hb2)
  have HB22 := Aside0.mk (Below.refl w2.heap.size w2)
  clear ho23 hb2 hl23 hC23 HB HM
  go_wp2_with fail
  go_loopg [16, 25] (ms.length : Nat) (fun kq v16 v25 w' => ∃ i : Nat, v25 = .int .i64 (i : Int) ∧ Aside0 (i + kq = ms.length) ∧ Aside0 (((accL kind l r ms n i).length : Int) ≤ mx) ∧ Aside0 (Kd.R (Kd.slice 43 k43) 38 w' w2.heap.size (fun _ => True) v16 (accL kind l r ms n i)) ∧ Aside0 (Below w2.heap.size w2 w'))
  case atStart => exact ⟨0, rfl, ⟨by omega⟩, ⟨by simp [accL]; rw [← hmx]; split <;> omega⟩, ⟨by simp only [accL, List.range_zero, List.flatMap_nil]; exact Kd.R_nil _ _ _ _ _⟩, ⟨by repeat (first | exact HB22.out | apply pw_below_drewN | apply below_drew1)⟩⟩
  case round =>
    clear HB22
    obtain ⟨i, rfl, HI, HMX, HO, HBW⟩ := hrel
    have HB := Aside0.mk (HB2.out.trans (HBW.out.mono (below_size HB2.out)))
    obtain ⟨vO, hvO⟩ : ∃ v, v = u16 := ⟨_, rfl⟩
    rw [← hvO] at HO ⊢
    clear hvO
    cases gk with
    | zero =>
      have cb : decide ((i : Int) < (ms.length : Int)) = false := decide_eq_false (by have := HI.out; omega)
      have cb2 : decide (i < ms.length) = false := decide_eq_false (by have := HI.out; omega)
      exfalso
      have h1 := HMX.out
      have h2 := HOV.out
      rw [show i = l.length by have := HI.out; have := HML.out; omega] at h1
      omega
    | succ k1 =>
      have c_ : (i : Int) < (ms.length : Int) := by have := HI.out; omega
      have cn : i < ms.length := by omega
      have cb : decide ((i : Int) < (ms.length : Int)) = true := decide_eq_true c_
      have cb2 : decide (i < ms.length) = true := decide_eq_true cn
      have p0 : ((0 : Int) ≤ (i : Int)) = True := eq_true (by omega)
      have q0 : ((i : Int) < (ms.length : Int)) = True := eq_true c_
      have q0n : (i < ms.length) = True := eq_true cn
      have cl : i < l.length := by have := HML.out; omega
      have q1 : ((i : Int) < (l.length : Int)) = True := eq_true (by omega)
      have q1n : (i < l.length) = True := eq_true cl
      have HI1 : Aside0 (wrap64 ((i : Int) + 1) = ((i + 1 : Nat) : Int)) := ⟨by unfold wrap64; have := HLN.out; omega⟩
      obtain ⟨ad, cs, e1, hcs, ⟨A2', c2', hc2, hlc2, hC2⟩, hcell⟩ := Kd.C_get (Kd.C_below HC23.out HBW.out) ([] : List Int) (i : Int) (by omega) c_
      subst hc2
      have hx1 := hcell 0 _ rfl
      subst e1
      rw [Int.toNat_natCast] at hlc2 hC2
      simp only [Int.toNat_natCast, Nat.add_zero, show (Kd.slice 3 (Kd.int .i64)).sz = 1 from rfl, Nat.mul_one] at hx1
      obtain ⟨adl, Al, cl', e2, hy, hck, hCk⟩ := at_L3 (Kd.C_below HL.out HB.out) (i : Int) (by omega) (by omega)
      subst e2
      rw [rdL_get, Int.toNat_natCast] at hy
      rw [rdL_get] at hck hCk
      have hrow := HWL.out (l.getD i []) (getD_lt_mem l i cl)
      have hmi := HMI.out i cl
      have hmsm := HMM.out i
      have hstep := accL_succ kind l r ms n i
      have hal := HAC.out (i + 1)
      obtain ⟨row, hr0⟩ : ∃ row, row = l.getD i [] := ⟨_, rfl⟩
      obtain ⟨m, hm0⟩ : ∃ m, m = ms.getD i [] := ⟨_, rfl⟩
      rw [← hr0] at hy hck hCk hrow hstep
      rw [← hm0] at hlc2 hC2 hx1 hmi hstep hmsm
      have HJ := Aside0.mk (joined_all kind Al cl' row A1 c1 r A2' c2' m n wr hCk hck (Kd.C_below HR.out HB.out) HC.out.2 hC2 hlc2 ⟨hrow, HN.out, by omega⟩ hmi HWR.out HK.out)
      obtain ⟨J, hJ⟩ : ∃ J, J = joinedL kind row r m n := ⟨_, rfl⟩
      rw [← hJ] at HJ hstep
      obtain ⟨acc, hacc⟩ : ∃ acc, acc = accL kind l r ms n i := ⟨_, rfl⟩
      rw [← hacc] at hstep HO
      obtain ⟨acc2, hacc2⟩ : ∃ acc2, acc2 = accL kind l r ms n (i + 1) := ⟨_, rfl⟩
      rw [← hacc2] at hstep hal
      have HAL : Aside0 ((acc.length + J.length) * 24 ≤ 140737488355328) := ⟨by have h9 := congrArg List.length hstep; rw [List.length_append] at h9; have := HLN.out; omega⟩
      have HSTEP := Aside0.mk hstep
      have HACC := Aside0.mk hacc2
      clear c_ cl hcs hlc2 hC2 hcell hck hCk hrow hmi hmsm hal hr0 hm0 hJ hacc hacc2 hstep
      go_wp2_with fail
      refine HJ.out.mono ?_
      rintro e w8 ⟨v39, rfl, ho39, hb8⟩
      obtain ⟨A39, c39, e39, hl39, hrd⟩ := OwnRow.reads ho39.2
      subst e39
      have HRD := Aside0.mk hrd
      have HO8 := Aside0.mk (Kd.R_below HO.out hb8)
      have HB8 := Aside0.mk (HB.out.trans (hb8.mono (below_size HB.out)))
      have HBW8 := Aside0.mk (HBW.out.trans (hb8.mono (below_size HBW.out)))
      clear ho39 hl39 hrd hb8 hx1 hy HJ
      by_cases hgt : mx < (acc2.length : Int)
      · have tg : decide (mx < (acc2.length : Int)) = true := decide_eq_true hgt
        clear hgt
        go_wp2_with (first | ((with_reducible refine gate_builtin (b := .append) (xs := #[.tmp 30, .tmp 39]) rfl ?_); at_builtin; refine Kd.R_append_rows (Kd.slice 43 k43) (Rr := (Kd.slice 43 k43).M w8 wr.heap.size (fun k => True ∧ some k ≠ (Value.slice A39 J.length c39).ownBlock)) (w0 := w2) w2.heap.size rfl (.tmp 30) (.tmp 39) 22 38 (.slice none 0 0) 24 rfl Try.underlying22 infoL rfl (by decide) (by omega) vO acc J A39 J.length c39 (fun _ => True) (fun k => wr.heap.size ≤ k) rfl rfl ?aO ?aR ?aK ?aP ?aF ?aB ?aS ?aL ?_; (case aO => exact HO8.out); (case aR => exact HRD.out); (case aK => exact (fun x cs h => (Kd.slice 43 k43).M_lower (below_size HBW.out) ((Kd.slice 43 k43).M_mono (fun k hk => hk.2.1) ((Kd.slice 43 k43).M_bound h)))); (case aP => exact (fun k hk => ⟨trivial, fun e => by have := Kd.R_lt HO.out k e.symm; omega⟩)); (case aF => exact (fun _ _ => trivial)); (case aB => exact HBW8.out); (case aS => exact below_size HBW8.out); (case aL => have h9 := HAL.out; omega); intro v40 w40 ho hb hg hat; rw [← HSTEP.out] at ho; obtain ⟨A40, c40, e40⟩ := Kd.R_slice ho; subst e40; have HO40 := Aside0.mk ho; have HB40 := Aside0.mk hb; clear ho hb hg hat))
        go_ret2
        exact ⟨rfl, HB2.out.trans (HB40.out.mono (below_size HB2.out))⟩
      · have tg : decide (mx < (acc2.length : Int)) = false := decide_eq_false hgt
        have HGT : Aside0 ((acc2.length : Int) ≤ mx) := ⟨by omega⟩
        clear hgt
        go_wp2_with (first | ((with_reducible refine gate_builtin (b := .append) (xs := #[.tmp 30, .tmp 39]) rfl ?_); at_builtin; refine Kd.R_append_rows (Kd.slice 43 k43) (Rr := (Kd.slice 43 k43).M w8 wr.heap.size (fun k => True ∧ some k ≠ (Value.slice A39 J.length c39).ownBlock)) (w0 := w2) w2.heap.size rfl (.tmp 30) (.tmp 39) 22 38 (.slice none 0 0) 24 rfl Try.underlying22 infoL rfl (by decide) (by omega) vO acc J A39 J.length c39 (fun _ => True) (fun k => wr.heap.size ≤ k) rfl rfl ?aO ?aR ?aK ?aP ?aF ?aB ?aS ?aL ?_; (case aO => exact HO8.out); (case aR => exact HRD.out); (case aK => exact (fun x cs h => (Kd.slice 43 k43).M_lower (below_size HBW.out) ((Kd.slice 43 k43).M_mono (fun k hk => hk.2.1) ((Kd.slice 43 k43).M_bound h)))); (case aP => exact (fun k hk => ⟨trivial, fun e => by have := Kd.R_lt HO.out k e.symm; omega⟩)); (case aF => exact (fun _ _ => trivial)); (case aB => exact HBW8.out); (case aS => exact below_size HBW8.out); (case aL => have h9 := HAL.out; omega); intro v40 w40 ho hb hg hat; rw [← HSTEP.out] at ho; obtain ⟨A40, c40, e40⟩ := Kd.R_slice ho; subst e40; have HO40 := Aside0.mk ho; have HB40 := Aside0.mk hb; clear ho hb hg hat))
        go_roundg k1
        case measure => omega
        case rel => exact ⟨i + 1, by first | rfl | (rw [HI1.out]), ⟨by have := HI.out; omega⟩, ⟨by rw [← HACC.out]; exact HGT.out⟩, ⟨by rw [← HACC.out]; exact HO40.out⟩, HB40⟩

end Go.Proofs.Ytcbjkejboegmlaa.HW
