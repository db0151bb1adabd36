import Derived.Test.YtcbjkejboegmlaaZJnM
/- join.joined. -/
set_option linter.unusedVariables false
set_option linter.unusedSimpArgs false
namespace Go.Proofs.Ytcbjkejboegmlaa.HW
open Go.RowKit Go.Proofs.Ytcbjkejboegmlaa.P Go.Proofs.Ytcbjkejboegmlaa.HP Go.Proofs.YtcbjkejboegmlaaW.PrintWords Go.Proofs.YtcbjkejboegmlaaW.PrintLast Go.Proofs.YtcbjkejboegmlaaW.PrintMore
attribute [local go_sem] max2_int min2_int max_two min_two max_three min_three max_four min_four
def nullV : S43 := ⟨true, ⟨#[]⟩⟩
/-- A left row's joined rows. -/
def joinedL (kind : Int) (row : Key) (r : List Key) (at_ : List Int) (n : Nat) : List Key :=
  if kind = 3 then (if at_ = [] then [] else [row]) else if kind = 4 then (if at_ = [] then [row] else []) else if kind = 2 ∧ at_ = [] then [row ++ List.replicate n nullV] else at_.map (fun i => row ++ rd_L3 r i)
theorem infoL : (Try.prog.info? 38).map (fun i => (i.zero, i.size, i.bytes)) = some (some (.slice none 0 0), 1, 24) := by kernel_rfl
/-- A literal of two rows that are only read. -/
theorem lit_two (w : World) (x1 x2 : Key) (A1 A2 : Option Addr) (c1 c2 : Nat) (h1 : x1.length ≤ c1) (h2 : x2.length ≤ c2) (hC1 : Kd.C k43 w A1 x1.length x1) (hC2 : Kd.C k43 w A2 x2.length x2) :
    Kd.C (Kd.slice 43 k43) (w.alloc (.cells #[.slice A1 x1.length c1, .slice A2 x2.length c2] 38)) (some ⟨w.heap.size, 0, none⟩) [x1, x2].length [x1, x2] := by
  have hb := below_alloc (Below.refl w.heap.size w) (.cells #[.slice A1 x1.length c1, .slice A2 x2.length c2] 38)
  refine ⟨rfl, by simp, fun _ => ⟨_, rfl, fun j p hj => ?_⟩⟩
  match j, hj with
  | 0, hj =>
    simp only [List.getElem?_cons_zero, Option.some.injEq] at hj
    subst hj
    refine ⟨[.slice A1 x1.length c1], rfl, ⟨A1, c1, rfl, h1, Kd.C_below hC1 hb⟩, fun i u hu => ?_⟩
    match i, hu with
    | 0, hu =>
      simp only [List.getElem?_cons_zero, Option.some.injEq] at hu
      subst hu
      exact blk_cell (blk_new w _) 0
  | 1, hj =>
    simp only [List.getElem?_cons_zero, List.getElem?_cons_succ, Option.some.injEq] at hj
    subst hj
    refine ⟨[.slice A2 x2.length c2], rfl, ⟨A2, c2, rfl, h2, Kd.C_below hC2 hb⟩, fun i u hu => ?_⟩
    match i, hu with
    | 0, hu =>
      simp only [List.getElem?_cons_zero, Option.some.injEq] at hu
      subst hu
      exact blk_cell (blk_new w _) 1
theorem M_row {W : World} {base : Nat} {v : Value} {x : Key} (h : Kd.R k43 43 W base (fun _ => True) v x) : (Kd.slice 43 k43).M W base (fun k => some k = v.ownBlock) x [v] := ⟨v, rfl, Kd.R_tight rfl h⟩
set_option maxHeartbeats 8000000 in
set_option maxRecDepth 100000 in
theorem joined_semi (kind : Int) (A1 : Option Addr) (c1 : Nat) (row : Key) (A2 : Option Addr) (c2 : Nat) (r : List Key) (A3 : Option Addr) (c3 : Nat) (at_ : List Int) (n : Nat) (w : World)
    (hR1 : Kd.C k43 w A1 row.length row) (hc1 : row.length ≤ c1) (hR2 : Kd.C (Kd.slice 43 k43) w A2 r.length r) (hc2 : r.length ≤ c2) (hR3 : Kd.C (Kd.int .i64) w A3 at_.length at_) (hc3 : at_.length ≤ c3) (hn : row.length ≤ 1000 ∧ n ≤ 1000 ∧ at_.length ≤ 1000) (hra : ∀ i ∈ at_, 0 ≤ i ∧ i < (r.length : Int)) (hrl : ∀ x ∈ r, x.length ≤ 1000) (hk : kind = 3) (hat : at_ ≠ []) :
    Calls Try.prog 19 #[.int .i64 kind, .slice A1 row.length c1, .slice A2 r.length c2, .slice A3 at_.length c3, .int .i64 (n : Int)] w fun e w' => ∃ v : Value, e = .returned v ∧ Kd.R (Kd.slice 43 k43) 38 w' w.heap.size (fun _ => True) v [row] ∧ Below w.heap.size w w' := by
  subst hk
  obtain ⟨N, hN⟩ : ∃ N, N = at_.length := ⟨_, rfl⟩
  rw [← hN] at hR3 hc3 ⊢
  have t0 : decide ((0 : Int) < (N : Int)) = true := decide_eq_true (by have := List.length_pos_iff.2 hat; omega)
  have t0n : decide (0 < N) = true := decide_eq_true (by have := List.length_pos_iff.2 hat; omega)
  have HB := Aside0.mk (Below.refl w.heap.size w)
  have HR1 := Aside0.mk hR1
  have HC1 := Aside0.mk hc1
  have HN := Aside0.mk hn.1
  clear hR1 hc1 hR2 hc2 hR3 hc3 hn hra hrl hat hN
  go_enter Try.func19, Try.ntmps19
  go_wp2_with fail
  refine (CloneV A1 c1 row _ HR1.out HC1.out (by have := HN.out; omega)).mono ?_
  rintro e w8 ⟨v8, rfl, ho8, hb8⟩
  obtain ⟨A8, c8, e8⟩ := Kd.R_slice ho8
  subst e8
  have HO8 := Aside0.mk ho8
  have HB8 := Aside0.mk hb8
  clear ho8 hb8
  go_wp2_with (first | ((with_reducible refine gate_dst (N := 33) rfl ?_); refine Kd.R_lit (Kd.slice 43 k43) (w0 := w) w.heap.size 38 ?hg (N := 33) ?hd (xs := [row]) (inner := [.slice A8 row.length c8]) (ok := fun _ => True) (okp := fun k => some k = (Value.slice A8 row.length c8).ownBlock) ?hr ?hp (fun _ _ => trivial) trivial ?hB ?hS (by simp) ?_; (case hd => rfl); (case hg => rfl); (case hr => first | (go_simp; done) | (go_simp; rfl)); (case hp => exact Reps.one (M_row HO8.out) (Reps.none _ _)); (case hB => exact HB8.out); (case hS => exact below_size HB8.out); intro v33 w33 ho hb hg hat; have HO3 := Aside0.mk ho; have HB3 := Aside0.mk hb; clear ho hb hg hat))
  go_ret
  exact ⟨_, rfl, HO3.out, HB3.out⟩
set_option maxHeartbeats 8000000 in
set_option maxRecDepth 100000 in
theorem joined_anti (kind : Int) (A1 : Option Addr) (c1 : Nat) (row : Key) (A2 : Option Addr) (c2 : Nat) (r : List Key) (A3 : Option Addr) (c3 : Nat) (at_ : List Int) (n : Nat) (w : World)
    (hR1 : Kd.C k43 w A1 row.length row) (hc1 : row.length ≤ c1) (hR2 : Kd.C (Kd.slice 43 k43) w A2 r.length r) (hc2 : r.length ≤ c2) (hR3 : Kd.C (Kd.int .i64) w A3 at_.length at_) (hc3 : at_.length ≤ c3) (hn : row.length ≤ 1000 ∧ n ≤ 1000 ∧ at_.length ≤ 1000) (hra : ∀ i ∈ at_, 0 ≤ i ∧ i < (r.length : Int)) (hrl : ∀ x ∈ r, x.length ≤ 1000) (hk : kind = 4) (hat : at_ = []) :
    Calls Try.prog 19 #[.int .i64 kind, .slice A1 row.length c1, .slice A2 r.length c2, .slice A3 at_.length c3, .int .i64 (n : Int)] w fun e w' => ∃ v : Value, e = .returned v ∧ Kd.R (Kd.slice 43 k43) 38 w' w.heap.size (fun _ => True) v [row] ∧ Below w.heap.size w w' := by
  subst hk
  obtain ⟨N, hN⟩ : ∃ N, N = at_.length := ⟨_, rfl⟩
  rw [← hN] at hR3 hc3 ⊢
  have t0 : ((N : Int) == 0) = true := by rw [hN, hat]; rfl
  have t0n : (N == 0) = true := by rw [hN, hat]; rfl
  have HB := Aside0.mk (Below.refl w.heap.size w)
  have HR1 := Aside0.mk hR1
  have HC1 := Aside0.mk hc1
  have HN := Aside0.mk hn.1
  clear hR1 hc1 hR2 hc2 hR3 hc3 hn hra hrl hat hN
  go_enter Try.func19, Try.ntmps19
  go_wp2_with fail
  refine (CloneV A1 c1 row _ HR1.out HC1.out (by have := HN.out; omega)).mono ?_
  rintro e w8 ⟨v8, rfl, ho8, hb8⟩
  obtain ⟨A8, c8, e8⟩ := Kd.R_slice ho8
  subst e8
  have HO8 := Aside0.mk ho8
  have HB8 := Aside0.mk hb8
  clear ho8 hb8
  go_wp2_with (first | ((with_reducible refine gate_dst (N := 33) rfl ?_); refine Kd.R_lit (Kd.slice 43 k43) (w0 := w) w.heap.size 38 ?hg (N := 33) ?hd (xs := [row]) (inner := [.slice A8 row.length c8]) (ok := fun _ => True) (okp := fun k => some k = (Value.slice A8 row.length c8).ownBlock) ?hr ?hp (fun _ _ => trivial) trivial ?hB ?hS (by simp) ?_; (case hd => rfl); (case hg => rfl); (case hr => first | (go_simp; done) | (go_simp; rfl)); (case hp => exact Reps.one (M_row HO8.out) (Reps.none _ _)); (case hB => exact HB8.out); (case hS => exact below_size HB8.out); intro v33 w33 ho hb hg hat; have HO3 := Aside0.mk ho; have HB3 := Aside0.mk hb; clear ho hb hg hat))
  go_ret
  exact ⟨_, rfl, HO3.out, HB3.out⟩
set_option maxHeartbeats 8000000 in
set_option maxRecDepth 100000 in
theorem joined_semi0 (kind : Int) (A1 : Option Addr) (c1 : Nat) (row : Key) (A2 : Option Addr) (c2 : Nat) (r : List Key) (A3 : Option Addr) (c3 : Nat) (at_ : List Int) (n : Nat) (w : World)
    (hR1 : Kd.C k43 w A1 row.length row) (hc1 : row.length ≤ c1) (hR2 : Kd.C (Kd.slice 43 k43) w A2 r.length r) (hc2 : r.length ≤ c2) (hR3 : Kd.C (Kd.int .i64) w A3 at_.length at_) (hc3 : at_.length ≤ c3) (hn : row.length ≤ 1000 ∧ n ≤ 1000 ∧ at_.length ≤ 1000) (hra : ∀ i ∈ at_, 0 ≤ i ∧ i < (r.length : Int)) (hrl : ∀ x ∈ r, x.length ≤ 1000) (hk : kind = 3) (hat : at_ = []) :
    Calls Try.prog 19 #[.int .i64 kind, .slice A1 row.length c1, .slice A2 r.length c2, .slice A3 at_.length c3, .int .i64 (n : Int)] w fun e w' => ∃ v : Value, e = .returned v ∧ Kd.R (Kd.slice 43 k43) 38 w' w.heap.size (fun _ => True) v [] ∧ Below w.heap.size w w' := by
  subst hk
  obtain ⟨N, hN⟩ : ∃ N, N = at_.length := ⟨_, rfl⟩
  rw [← hN] at hR3 hc3 ⊢
  have t0 : decide ((0 : Int) < (N : Int)) = false := decide_eq_false (by rw [hN, hat]; simp)
  have t0n : decide (0 < N) = false := decide_eq_false (by rw [hN, hat]; simp)
  have HB := Aside0.mk (Below.refl w.heap.size w)
  clear hR1 hc1 hR2 hc2 hR3 hc3 hn hra hrl hat hN
  go_enter Try.func19, Try.ntmps19
  go_wp2_with fail
  go_ret
  exact ⟨_, rfl, Kd.R_nil _ _ _ _ _, by repeat (first | exact HB.out | apply pw_below_drewN | apply below_drew1)⟩
set_option maxHeartbeats 8000000 in
set_option maxRecDepth 100000 in
theorem joined_anti0 (kind : Int) (A1 : Option Addr) (c1 : Nat) (row : Key) (A2 : Option Addr) (c2 : Nat) (r : List Key) (A3 : Option Addr) (c3 : Nat) (at_ : List Int) (n : Nat) (w : World)
    (hR1 : Kd.C k43 w A1 row.length row) (hc1 : row.length ≤ c1) (hR2 : Kd.C (Kd.slice 43 k43) w A2 r.length r) (hc2 : r.length ≤ c2) (hR3 : Kd.C (Kd.int .i64) w A3 at_.length at_) (hc3 : at_.length ≤ c3) (hn : row.length ≤ 1000 ∧ n ≤ 1000 ∧ at_.length ≤ 1000) (hra : ∀ i ∈ at_, 0 ≤ i ∧ i < (r.length : Int)) (hrl : ∀ x ∈ r, x.length ≤ 1000) (hk : kind = 4) (hat : at_ ≠ []) :
    Calls Try.prog 19 #[.int .i64 kind, .slice A1 row.length c1, .slice A2 r.length c2, .slice A3 at_.length c3, .int .i64 (n : Int)] w fun e w' => ∃ v : Value, e = .returned v ∧ Kd.R (Kd.slice 43 k43) 38 w' w.heap.size (fun _ => True) v [] ∧ Below w.heap.size w w' := by
  subst hk
  obtain ⟨N, hN⟩ : ∃ N, N = at_.length := ⟨_, rfl⟩
  rw [← hN] at hR3 hc3 ⊢
  have t0 : ((N : Int) == 0) = false := beq_eq_false_iff_ne.2 (by have := List.length_pos_iff.2 hat; omega)
  have t0n : (N == 0) = false := beq_eq_false_iff_ne.2 (by have := List.length_pos_iff.2 hat; omega)
  have t0p : (N = 0) = False := eq_false (by have := List.length_pos_iff.2 hat; omega)
  have HB := Aside0.mk (Below.refl w.heap.size w)
  clear hR1 hc1 hR2 hc2 hR3 hc3 hn hra hrl hat hN
  go_enter Try.func19, Try.ntmps19
  go_wp2_with fail
  go_ret
  exact ⟨_, rfl, Kd.R_nil _ _ _ _ _, by repeat (first | exact HB.out | apply pw_below_drewN | apply below_drew1)⟩
theorem nulls_all {n : Nat} {xs : List S43} (hl : xs.length = n) (h : ∀ j, j < n → xs.getD j z43 = nullV) : xs = List.replicate n nullV := by
  apply List.ext_getElem
  · simp [hl]
  · intro i h1 h2
    have := h i (by omega)
    simp [List.getD_eq_getElem?_getD, h1] at this
    simp [this]
set_option maxHeartbeats 8000000 in
set_option maxRecDepth 100000 in
theorem joined_left (kind : Int) (A1 : Option Addr) (c1 : Nat) (row : Key) (A2 : Option Addr) (c2 : Nat) (r : List Key) (A3 : Option Addr) (c3 : Nat) (at_ : List Int) (n : Nat) (w : World)
    (hR1 : Kd.C k43 w A1 row.length row) (hc1 : row.length ≤ c1) (hR2 : Kd.C (Kd.slice 43 k43) w A2 r.length r) (hc2 : r.length ≤ c2) (hR3 : Kd.C (Kd.int .i64) w A3 at_.length at_) (hc3 : at_.length ≤ c3) (hn : row.length ≤ 1000 ∧ n ≤ 1000 ∧ at_.length ≤ 1000) (hra : ∀ i ∈ at_, 0 ≤ i ∧ i < (r.length : Int)) (hrl : ∀ x ∈ r, x.length ≤ 1000) (hk : kind = 2) (hat : at_ = []) :
    Calls Try.prog 19 #[.int .i64 kind, .slice A1 row.length c1, .slice A2 r.length c2, .slice A3 at_.length c3, .int .i64 (n : Int)] w fun e w' => ∃ v : Value, e = .returned v ∧ Kd.R (Kd.slice 43 k43) 38 w' w.heap.size (fun _ => True) v [row ++ List.replicate n nullV] ∧ Below w.heap.size w w' := by
  subst hk
  obtain ⟨N, hN⟩ : ∃ N, N = at_.length := ⟨_, rfl⟩
  rw [← hN] at hR3 hc3 ⊢
  have t0 : ((N : Int) == 0) = true := by rw [hN, hat]; rfl
  have t0n : (N == 0) = true := by rw [hN, hat]; rfl
  have HR1 := Aside0.mk hR1
  have HC1 := Aside0.mk hc1
  have HN : Aside0 (row.length ≤ 1000 ∧ n ≤ 1000) := ⟨by omega⟩
  clear hR1 hc1 hR2 hc2 hR3 hc3 hn hra hrl hat hN
  go_enter Try.func19, Try.ntmps19
  go_wp2_with (first | ((with_reducible refine gate_dst (N := 48) rfl ?_); refine Kd.R_make k43 (w0 := w) w.heap.size 43 rfl (N := 48) rfl 38 _ _ rfl (n : Int) rfl rfl Try.underlying38 (.agg #[.bool false, .string ⟨#[]⟩]) 24 infoV rfl (by decide) (by omega) z43 (ok := fun _ => True) (okp := fun _ => True) (k43_mkM _ _ _ z43) (fun _ hk => hk) trivial (by omega) ?ml (Below.refl _ _) (Nat.le_refl _) ?_; (case ml => have := HN.out; omega); intro v48 w48 ho hb hg hat; rw [Int.toNat_natCast] at ho; obtain ⟨A48, c48, e48⟩ := Kd.R_slice ho; rw [List.length_replicate] at e48; subst e48; have HO := Aside0.mk ho; have HB4 := Aside0.mk hb; clear ho hb hg hat))
  go_loopg [51] (n : Nat) (fun kq v51 w' => ∃ (i : Nat) (xs : List S43), v51 = .int .i64 (i : Int) ∧ Aside0 (i + kq = n) ∧ Aside0 (xs.length = n ∧ ∀ j, j < n → xs.getD j z43 = if j < i then nullV else z43) ∧ Aside0 (Kd.R k43 43 w' w.heap.size (fun _ => True) (.slice A48 n c48) xs) ∧ Aside0 (Below w.heap.size w w'))
  case atStart => exact ⟨0, _, rfl, ⟨by omega⟩, ⟨by simp, fun j hj => by simp [List.getD_eq_getElem?_getD, hj]⟩, HO, HB4⟩
  case round =>
    clear HO HB4
    obtain ⟨i, xs, rfl, HI, HX, HO, HB4⟩ := hrel
    cases gk with
    | succ k1 =>
      have c_ : (i : Int) < (n : Int) := by have := HI.out; omega
      have cn : i < n := by omega
      have cb : decide ((i : Int) < (n : Int)) = true := decide_eq_true c_
      have cb2 : decide (i < n) = true := decide_eq_true cn
      have p0 : ((0 : Int) ≤ (i : Int)) = True := eq_true (by omega)
      have q0 : ((i : Int) < (n : Int)) = True := eq_true c_
      have q0n : (i < n) = True := eq_true cn
      have HI1 : Aside0 (wrap64 ((i : Int) + 1) = ((i + 1 : Nat) : Int)) := ⟨by unfold wrap64; have := HN.out; omega⟩
      obtain ⟨g, cap, eg, _, _, _⟩ := Kd.R_form HO.out (by have := HX.out.1; omega)
      rw [HX.out.1] at eg
      injection eg with eg1 _ eg2
      subst eg1 eg2
      obtain ⟨AC, cC, eC, hcC, hCC⟩ := Kd.R_reads HO.out
      rw [HX.out.1] at eC
      injection eC with eC1 _ eC2
      subst eC1 eC2
      obtain ⟨ad, cs, ead, hcl, hK, hcell⟩ := Kd.C_get hCC z43 (i : Int) (by omega) (by have := HX.out.1; omega)
      injection ead with ead
      subst ead
      rw [Int.toNat_natCast] at hK hcell
      rw [show xs.getD i z43 = z43 by rw [HX.out.2 i cn, if_neg (by omega)]] at hK
      obtain rfl := k43_open hK
      have HSC : Aside0 (∀ j u, [Value.bool false, Value.string ⟨#[]⟩][j]? = some u → wr.cell? ⟨g, (i : Int).toNat * k43.sz + j, none⟩ = some u) := ⟨fun j u hu => by
        have h9 := hcell j u hu
        rw [add_plain] at h9
        rw [Int.toNat_natCast]
        exact h9⟩
      clear c_ hcC hCC hcl hK hcell
      go_wp2_with (first | ((with_reducible refine gate_store (t := 4) (p := 57) rfl ?_); refine Kd.R_store k43 (w0 := w) (o' := i * 2) (g := g) (n := n) (cap := c48) w.heap.size rfl rfl 4 (.tmp 57) _ rfl 43 (i : Int) 0 xs nullV (.bool true) [.bool true] [.bool false, .string ⟨#[]⟩] (fun _ => True) (fun _ => False) ?sA ?sO rfl rfl (by kernel_rfl) (by simp [Value.oneCell']) HO.out (by omega) ?sI rfl ?sC (by decide) (k43_mkM _ _ _ nullV) (fun _ hk => hk.elim) HB4.out ?_; (case sA => rfl); (case sO => rw [Int.toNat_natCast]; rfl); (case sI => have := HI.out; omega); (case sC => exact HSC.out); intro w57 ho hb hg; have HO5 := Aside0.mk ho; have HB5 := Aside0.mk hb; clear ho hb hg))
      go_roundg k1
      case measure => omega
      case rel =>
        refine ⟨i + 1, xs.set i nullV, by first | rfl | (rw [HI1.out]), ⟨by have := HI.out; omega⟩, ⟨by rw [List.length_set]; exact HX.out.1, fun j hj => ?_⟩, ⟨?_⟩, HB5⟩
        · have hl := HX.out.1
          by_cases hji : j = i
          · subst hji
            rw [if_pos (by omega)]
            simp [List.getD_eq_getElem?_getD, hl, hj]
          · have h9 := HX.out.2 j hj
            have e1 : (xs.set i nullV).getD j z43 = xs.getD j z43 := by
              simp only [List.getD_eq_getElem?_getD]
              rw [List.getElem?_set_ne (Ne.symm hji)]
            rw [e1, h9]
            by_cases hlt : j < i
            · rw [if_pos hlt, if_pos (by omega)]
            · rw [if_neg hlt, if_neg (by omega)]
        · have h9 := HO5.out
          rw [Int.toNat_natCast] at h9
          exact h9
    | zero =>
      have hin : i = n := by have := HI.out; omega
      have cb : decide ((i : Int) < (n : Int)) = false := decide_eq_false (by omega)
      have cb2 : decide (i < n) = false := decide_eq_false (by omega)
      have hxs : xs = List.replicate n nullV := nulls_all HX.out.1 (fun j hj => by rw [HX.out.2 j hj, if_pos (by omega)])
      rw [hxs] at HO
      obtain ⟨AC, cC, eC, hcC, hCC⟩ := Kd.R_reads HO.out
      injection eC with eC1 eC3 eC2
      clear eC3
      subst eC1 eC2
      rw [List.length_replicate] at hCC hcC
      have HCC := Aside0.mk hCC
      have HLC := Aside0.mk hcC
      have HL2 := Aside0.mk (fun W hW => lit_two W row (List.replicate n nullV) A1 A48 c1 c48 HC1.out (by rw [List.length_replicate]; exact hcC) (Kd.C_below (Kd.C_below HR1.out HB4.out) hW) (by rw [List.length_replicate]; exact Kd.C_below hCC hW))
      rw [List.length_replicate] at HL2
      clear hin hxs hcC hCC
      go_wp2_with fail
      refine (ConcatV.calls (some ⟨wr.heap.size, 0, none⟩) 2 [row, List.replicate n nullV] (row ++ List.replicate n nullV) _ (HL2.out _ (Below.refl _ _)) (Nat.le_refl _) (by unfold ConcatV.f; rw [show [row, List.replicate n nullV].flatten = row ++ List.replicate n nullV by simp, if_pos (by have := HN.out; simp; omega)])).mono ?_
      rintro e w8 ⟨v8, rfl, ho8, hb8⟩
      obtain ⟨A8, c8, e8⟩ := Kd.R_slice ho8
      subst e8
      have HO8 : Aside0 (Kd.R k43 43 w8 w.heap.size (fun _ => True) (.slice A8 (row ++ List.replicate n nullV).length c8) (row ++ List.replicate n nullV)) := ⟨Kd.R_lower ho8 (Nat.le_trans (below_size HB4.out) (by simp))⟩
      have HB8 : Aside0 (Below w.heap.size w w8) := ⟨(below_alloc HB4.out _).trans (hb8.mono (Nat.le_trans (below_size HB4.out) (by simp)))⟩
      clear ho8 hb8
      go_wp2_with (first | ((with_reducible refine gate_dst (N := 63) rfl ?_); refine Kd.R_lit (Kd.slice 43 k43) (w0 := w) w.heap.size 38 ?hg (N := 63) ?hd (xs := [row ++ List.replicate n nullV]) (inner := [.slice A8 (row ++ List.replicate n nullV).length c8]) (ok := fun _ => True) (okp := fun k => some k = (Value.slice A8 (row ++ List.replicate n nullV).length c8).ownBlock) ?hr ?hp (fun _ _ => trivial) trivial ?hB ?hS (by simp) ?_; (case hd => rfl); (case hg => rfl); (case hr => first | (go_simp; done) | (go_simp; rfl)); (case hp => exact Reps.one (M_row HO8.out) (Reps.none _ _)); (case hB => exact HB8.out); (case hS => exact below_size HB8.out); intro v33 w33 ho hb hg hat; have HO3 := Aside0.mk ho; have HB3 := Aside0.mk hb; clear ho hb hg hat))
      go_ret
      exact ⟨_, rfl, HO3.out, HB3.out⟩
set_option maxHeartbeats 8000000 in
set_option maxRecDepth 100000 in
theorem joined_inner (kind : Int) (A1 : Option Addr) (c1 : Nat) (row : Key) (A2 : Option Addr) (c2 : Nat) (r : List Key) (A3 : Option Addr) (c3 : Nat) (at_ : List Int) (n : Nat) (w : World)
    (hR1 : Kd.C k43 w A1 row.length row) (hc1 : row.length ≤ c1) (hR2 : Kd.C (Kd.slice 43 k43) w A2 r.length r) (hc2 : r.length ≤ c2) (hR3 : Kd.C (Kd.int .i64) w A3 at_.length at_) (hc3 : at_.length ≤ c3) (hn : row.length ≤ 1000 ∧ n ≤ 1000 ∧ at_.length ≤ 1000) (hra : ∀ i ∈ at_, 0 ≤ i ∧ i < (r.length : Int)) (hrl : ∀ x ∈ r, x.length ≤ 1000) (hk : kind = 1) :
    Calls Try.prog 19 #[.int .i64 kind, .slice A1 row.length c1, .slice A2 r.length c2, .slice A3 at_.length c3, .int .i64 (n : Int)] w fun e w' => ∃ v : Value, e = .returned v ∧ Kd.R (Kd.slice 43 k43) 38 w' w.heap.size (fun _ => True) v (at_.map (fun i => row ++ rd_L3 r i)) ∧ Below w.heap.size w w' := by
  subst hk
  have HR1 := Aside0.mk hR1
  have HC1 := Aside0.mk hc1
  have HR2 := Aside0.mk hR2
  have HR3 := Aside0.mk hR3
  have HN := Aside0.mk hn
  have HRA := Aside0.mk hra
  have HRL := Aside0.mk hrl
  have HB := Aside0.mk (Below.refl w.heap.size w)
  clear hR1 hc1 hR2 hc2 hR3 hc3 hn hra hrl
  go_enter Try.func19, Try.ntmps19
  go_wp2_with fail
  go_loopg [13, 66] (at_.length : Nat) (fun kq v13 v66 w' => ∃ i : Nat, v66 = .int .i64 (i : Int) ∧ Aside0 (i + kq = at_.length) ∧ Aside0 (Kd.R (Kd.slice 43 k43) 38 w' w.heap.size (fun _ => True) v13 ((at_.take i).map (fun i => row ++ rd_L3 r i))) ∧ Aside0 (Below w.heap.size w w'))
  case atStart => exact ⟨0, rfl, ⟨by omega⟩, ⟨by rw [List.take_zero]; exact Kd.R_nil _ _ _ _ _⟩, ⟨by repeat (first | exact HB.out | apply pw_below_drewN | apply below_drew1)⟩⟩
  case round =>
    clear HB
    obtain ⟨i, rfl, HI, HO, HB⟩ := hrel
    obtain ⟨vO, hvO⟩ : ∃ v, v = u13 := ⟨_, rfl⟩
    rw [← hvO] at HO ⊢
    clear hvO
    cases gk with
    | zero =>
      have cb : decide ((i : Int) < (at_.length : Int)) = false := decide_eq_false (by have := HI.out; omega)
      have cb2 : decide (i < at_.length) = false := decide_eq_false (by have := HI.out; omega)
      go_wp2_with fail
      go_ret
      refine ⟨_, rfl, ?_, HB.out⟩
      have h9 := HO.out
      rw [List.take_of_length_le (by have := HI.out; omega)] at h9
      exact h9
    | succ k1 =>
      have c_ : (i : Int) < (at_.length : Int) := by have := HI.out; omega
      have cn : i < at_.length := by omega
      have cb : decide ((i : Int) < (at_.length : Int)) = true := decide_eq_true c_
      have cb2 : decide (i < at_.length) = true := decide_eq_true cn
      have p0 : ((0 : Int) ≤ (i : Int)) = True := eq_true (by omega)
      have q0 : ((i : Int) < (at_.length : Int)) = True := eq_true c_
      have q0n : (i < at_.length) = True := eq_true cn
      have HI1 : Aside0 (wrap64 ((i : Int) + 1) = ((i + 1 : Nat) : Int)) := ⟨by unfold wrap64; have := HN.out; omega⟩
      obtain ⟨ad3, e3, hx⟩ := Kd.at_int (Kd.C_below HR3.out HB.out) (i : Int) (by omega) c_
      subst e3
      rw [rd_nat at_ i cn, Int.toNat_natCast] at hx
      obtain ⟨h0, h1⟩ := HRA.out at_[i] (List.getElem_mem cn)
      obtain ⟨q, hq⟩ := Int.eq_ofNat_of_zero_le h0
      have HSTEP : Aside0 ((at_.take (i + 1)).map (fun i => row ++ rd_L3 r i) = (at_.take i).map (fun i => row ++ rd_L3 r i) ++ [row ++ rd_L3 r (q : Int)]) := ⟨by
        rw [List.take_succ_eq_append_getElem cn, List.map_append, hq]
        rfl⟩
      rw [hq] at hx h1
      have hqr : q < r.length := by omega
      have p1 : ((0 : Int) ≤ (q : Int)) = True := eq_true (by omega)
      have q1 : ((q : Int) < (r.length : Int)) = True := eq_true h1
      have q1n : (q < r.length) = True := eq_true hqr
      obtain ⟨ad2, Ak, ck, e2, hy, hck, hCk⟩ := at_L3 (Kd.C_below HR2.out HB.out) (q : Int) (by omega) h1
      subst e2
      rw [Int.toNat_natCast] at hy
      have hrl9 := HRL.out (rd_L3 r (q : Int)) (by rw [rdL_get]; exact getD_lt_mem r q hqr)
      obtain ⟨ri, hri⟩ : ∃ x, x = rd_L3 r (q : Int) := ⟨_, rfl⟩
      rw [← hri] at hy hck hCk HSTEP hrl9
      have HRI := Aside0.mk hrl9
      have HL2 := Aside0.mk (fun W hW => lit_two W row ri A1 Ak c1 ck HC1.out hck (Kd.C_below (Kd.C_below HR1.out HB.out) hW) (Kd.C_below hCk hW))
      obtain ⟨xy, hxy⟩ : ∃ x, x = row ++ ri := ⟨_, rfl⟩
      rw [← hxy] at HSTEP
      have HXY := Aside0.mk hxy
      clear c_ h0 h1 hq hqr hck hCk hrl9 hri hxy
      go_wp2_with fail
      refine (ConcatV.calls (some ⟨wr.heap.size, 0, none⟩) 2 [row, ri] xy _ (HL2.out _ (Below.refl _ _)) (Nat.le_refl _) (by unfold ConcatV.f; rw [show [row, ri].flatten = xy by rw [HXY.out]; simp, if_pos (by have := HN.out; have := HRI.out; rw [HXY.out, List.length_append]; omega)])).mono ?_
      rintro e w8 ⟨v8, rfl, ho8, hb8⟩
      obtain ⟨A8, c8, e8⟩ := Kd.R_slice ho8
      subst e8
      have hbw : Below wr.heap.size wr w8 := (below_alloc (Below.refl _ _) _).trans (hb8.mono (by simp))
      have HAP : Aside0 (∀ k, some k = (Value.slice A8 xy.length c8).ownBlock → some k ≠ vO.ownBlock) := ⟨fun k hk e => by have h8 := Kd.R_base ho8 k hk.symm; have h9 := Kd.R_lt HO.out k e.symm; simp at h8; omega⟩
      have HOO := Aside0.mk (Kd.R_below HO.out hbw)
      have HO8 : Aside0 (Kd.R k43 43 w8 w.heap.size (fun _ => True) (.slice A8 xy.length c8) xy) := ⟨Kd.R_lower ho8 (Nat.le_trans (below_size HB.out) (by simp))⟩
      have HB8 : Aside0 (Below w.heap.size w w8) := ⟨HB.out.trans (hbw.mono (below_size HB.out))⟩
      clear ho8 hb8 hbw HO HB hx hy
      go_wp2_with (first | ((with_reducible refine gate_builtin (b := .append) (xs := #[.tmp 70, .tmp 78]) rfl ?_); at_builtin; refine Kd.R_append (Kd.slice 43 k43) (w0 := w) w.heap.size rfl (.tmp 70) (.tmp 78) 22 38 (.slice none 0 0) 24 rfl Try.underlying22 infoL rfl (by decide) (by omega) vO ((at_.take i).map (fun i => row ++ rd_L3 r i)) xy [.slice A8 xy.length c8] (fun _ => True) (fun k => some k = (Value.slice A8 xy.length c8).ownBlock) rfl rfl ?aP ?aK ?aF ?aO ?aB ?aS ?aL ?_; (case aP => exact M_row HO8.out); (case aK => exact (fun k hk => ⟨trivial, HAP.out k hk⟩)); (case aF => exact (fun _ _ => trivial)); (case aO => exact HOO.out); (case aB => exact HB8.out); (case aS => exact below_size HB8.out); (case aL => have h9 := HN.out; have h8 := HI.out; rw [List.length_map, List.length_take]; omega); intro v3 w3 ho hb hg hat; rw [← HSTEP.out] at ho; have HO3 := Aside0.mk ho; have HB3 := Aside0.mk hb; clear ho hb hg hat))
      go_roundg k1
      case measure => omega
      case rel => exact ⟨i + 1, by first | rfl | (rw [HI1.out]), ⟨by have := HI.out; omega⟩, HO3, HB3⟩
set_option maxHeartbeats 8000000 in
set_option maxRecDepth 100000 in
theorem joined_leftin (kind : Int) (A1 : Option Addr) (c1 : Nat) (row : Key) (A2 : Option Addr) (c2 : Nat) (r : List Key) (A3 : Option Addr) (c3 : Nat) (at_ : List Int) (n : Nat) (w : World)
    (hR1 : Kd.C k43 w A1 row.length row) (hc1 : row.length ≤ c1) (hR2 : Kd.C (Kd.slice 43 k43) w A2 r.length r) (hc2 : r.length ≤ c2) (hR3 : Kd.C (Kd.int .i64) w A3 at_.length at_) (hc3 : at_.length ≤ c3) (hn : row.length ≤ 1000 ∧ n ≤ 1000 ∧ at_.length ≤ 1000) (hra : ∀ i ∈ at_, 0 ≤ i ∧ i < (r.length : Int)) (hrl : ∀ x ∈ r, x.length ≤ 1000) (hk : kind = 2) (hat : at_ ≠ []) :
    Calls Try.prog 19 #[.int .i64 kind, .slice A1 row.length c1, .slice A2 r.length c2, .slice A3 at_.length c3, .int .i64 (n : Int)] w fun e w' => ∃ v : Value, e = .returned v ∧ Kd.R (Kd.slice 43 k43) 38 w' w.heap.size (fun _ => True) v (at_.map (fun i => row ++ rd_L3 r i)) ∧ Below w.heap.size w w' := by
  subst hk
  have t0 : ((at_.length : Int) == 0) = false := beq_eq_false_iff_ne.2 (by have := List.length_pos_iff.2 hat; omega)
  have t0n : (at_.length == 0) = false := beq_eq_false_iff_ne.2 (by have := List.length_pos_iff.2 hat; omega)
  have t0p : (at_.length = 0) = False := eq_false (by have := List.length_pos_iff.2 hat; omega)
  have t0q : (at_ = []) = False := eq_false hat
  have HR1 := Aside0.mk hR1
  have HC1 := Aside0.mk hc1
  have HR2 := Aside0.mk hR2
  have HR3 := Aside0.mk hR3
  have HN := Aside0.mk hn
  have HRA := Aside0.mk hra
  have HRL := Aside0.mk hrl
  have HB := Aside0.mk (Below.refl w.heap.size w)
  clear hR1 hc1 hR2 hc2 hR3 hc3 hn hra hrl hat
  go_enter Try.func19, Try.ntmps19
  go_wp2_with fail
  go_loopg [13, 66] (at_.length : Nat) (fun kq v13 v66 w' => ∃ i : Nat, v66 = .int .i64 (i : Int) ∧ Aside0 (i + kq = at_.length) ∧ Aside0 (Kd.R (Kd.slice 43 k43) 38 w' w.heap.size (fun _ => True) v13 ((at_.take i).map (fun i => row ++ rd_L3 r i))) ∧ Aside0 (Below w.heap.size w w'))
  case atStart => exact ⟨0, rfl, ⟨by omega⟩, ⟨by rw [List.take_zero]; exact Kd.R_nil _ _ _ _ _⟩, ⟨by repeat (first | exact HB.out | apply pw_below_drewN | apply below_drew1)⟩⟩
  case round =>
    clear HB
    obtain ⟨i, rfl, HI, HO, HB⟩ := hrel
    obtain ⟨vO, hvO⟩ : ∃ v, v = u13 := ⟨_, rfl⟩
    rw [← hvO] at HO ⊢
    clear hvO
    cases gk with
    | zero =>
      have cb : decide ((i : Int) < (at_.length : Int)) = false := decide_eq_false (by have := HI.out; omega)
      have cb2 : decide (i < at_.length) = false := decide_eq_false (by have := HI.out; omega)
      go_wp2_with fail
      go_ret
      refine ⟨_, rfl, ?_, HB.out⟩
      have h9 := HO.out
      rw [List.take_of_length_le (by have := HI.out; omega)] at h9
      exact h9
    | succ k1 =>
      have c_ : (i : Int) < (at_.length : Int) := by have := HI.out; omega
      have cn : i < at_.length := by omega
      have cb : decide ((i : Int) < (at_.length : Int)) = true := decide_eq_true c_
      have cb2 : decide (i < at_.length) = true := decide_eq_true cn
      have p0 : ((0 : Int) ≤ (i : Int)) = True := eq_true (by omega)
      have q0 : ((i : Int) < (at_.length : Int)) = True := eq_true c_
      have q0n : (i < at_.length) = True := eq_true cn
      have HI1 : Aside0 (wrap64 ((i : Int) + 1) = ((i + 1 : Nat) : Int)) := ⟨by unfold wrap64; have := HN.out; omega⟩
      obtain ⟨ad3, e3, hx⟩ := Kd.at_int (Kd.C_below HR3.out HB.out) (i : Int) (by omega) c_
      subst e3
      rw [rd_nat at_ i cn, Int.toNat_natCast] at hx
      obtain ⟨h0, h1⟩ := HRA.out at_[i] (List.getElem_mem cn)
      obtain ⟨q, hq⟩ := Int.eq_ofNat_of_zero_le h0
      have HSTEP : Aside0 ((at_.take (i + 1)).map (fun i => row ++ rd_L3 r i) = (at_.take i).map (fun i => row ++ rd_L3 r i) ++ [row ++ rd_L3 r (q : Int)]) := ⟨by
        rw [List.take_succ_eq_append_getElem cn, List.map_append, hq]
        rfl⟩
      rw [hq] at hx h1
      have hqr : q < r.length := by omega
      have p1 : ((0 : Int) ≤ (q : Int)) = True := eq_true (by omega)
      have q1 : ((q : Int) < (r.length : Int)) = True := eq_true h1
      have q1n : (q < r.length) = True := eq_true hqr
      obtain ⟨ad2, Ak, ck, e2, hy, hck, hCk⟩ := at_L3 (Kd.C_below HR2.out HB.out) (q : Int) (by omega) h1
      subst e2
      rw [Int.toNat_natCast] at hy
      have hrl9 := HRL.out (rd_L3 r (q : Int)) (by rw [rdL_get]; exact getD_lt_mem r q hqr)
      obtain ⟨ri, hri⟩ : ∃ x, x = rd_L3 r (q : Int) := ⟨_, rfl⟩
      rw [← hri] at hy hck hCk HSTEP hrl9
      have HRI := Aside0.mk hrl9
      have HL2 := Aside0.mk (fun W hW => lit_two W row ri A1 Ak c1 ck HC1.out hck (Kd.C_below (Kd.C_below HR1.out HB.out) hW) (Kd.C_below hCk hW))
      obtain ⟨xy, hxy⟩ : ∃ x, x = row ++ ri := ⟨_, rfl⟩
      rw [← hxy] at HSTEP
      have HXY := Aside0.mk hxy
      clear c_ h0 h1 hq hqr hck hCk hrl9 hri hxy
      go_wp2_with fail
      refine (ConcatV.calls (some ⟨wr.heap.size, 0, none⟩) 2 [row, ri] xy _ (HL2.out _ (Below.refl _ _)) (Nat.le_refl _) (by unfold ConcatV.f; rw [show [row, ri].flatten = xy by rw [HXY.out]; simp, if_pos (by have := HN.out; have := HRI.out; rw [HXY.out, List.length_append]; omega)])).mono ?_
      rintro e w8 ⟨v8, rfl, ho8, hb8⟩
      obtain ⟨A8, c8, e8⟩ := Kd.R_slice ho8
      subst e8
      have hbw : Below wr.heap.size wr w8 := (below_alloc (Below.refl _ _) _).trans (hb8.mono (by simp))
      have HAP : Aside0 (∀ k, some k = (Value.slice A8 xy.length c8).ownBlock → some k ≠ vO.ownBlock) := ⟨fun k hk e => by have h8 := Kd.R_base ho8 k hk.symm; have h9 := Kd.R_lt HO.out k e.symm; simp at h8; omega⟩
      have HOO := Aside0.mk (Kd.R_below HO.out hbw)
      have HO8 : Aside0 (Kd.R k43 43 w8 w.heap.size (fun _ => True) (.slice A8 xy.length c8) xy) := ⟨Kd.R_lower ho8 (Nat.le_trans (below_size HB.out) (by simp))⟩
      have HB8 : Aside0 (Below w.heap.size w w8) := ⟨HB.out.trans (hbw.mono (below_size HB.out))⟩
      clear ho8 hb8 hbw HO HB hx hy
      go_wp2_with (first | ((with_reducible refine gate_builtin (b := .append) (xs := #[.tmp 70, .tmp 78]) rfl ?_); at_builtin; refine Kd.R_append (Kd.slice 43 k43) (w0 := w) w.heap.size rfl (.tmp 70) (.tmp 78) 22 38 (.slice none 0 0) 24 rfl Try.underlying22 infoL rfl (by decide) (by omega) vO ((at_.take i).map (fun i => row ++ rd_L3 r i)) xy [.slice A8 xy.length c8] (fun _ => True) (fun k => some k = (Value.slice A8 xy.length c8).ownBlock) rfl rfl ?aP ?aK ?aF ?aO ?aB ?aS ?aL ?_; (case aP => exact M_row HO8.out); (case aK => exact (fun k hk => ⟨trivial, HAP.out k hk⟩)); (case aF => exact (fun _ _ => trivial)); (case aO => exact HOO.out); (case aB => exact HB8.out); (case aS => exact below_size HB8.out); (case aL => have h9 := HN.out; have h8 := HI.out; rw [List.length_map, List.length_take]; omega); intro v3 w3 ho hb hg hat; rw [← HSTEP.out] at ho; have HO3 := Aside0.mk ho; have HB3 := Aside0.mk hb; clear ho hb hg hat))
      go_roundg k1
      case measure => omega
      case rel => exact ⟨i + 1, by first | rfl | (rw [HI1.out]), ⟨by have := HI.out; omega⟩, HO3, HB3⟩
theorem joined_all (kind : Int) (A1 : Option Addr) (c1 : Nat) (row : Key) (A2 : Option Addr) (c2 : Nat) (r : List Key) (A3 : Option Addr) (c3 : Nat) (at_ : List Int) (n : Nat) (w : World)
    (hR1 : Kd.C k43 w A1 row.length row) (hc1 : row.length ≤ c1) (hR2 : Kd.C (Kd.slice 43 k43) w A2 r.length r) (hc2 : r.length ≤ c2) (hR3 : Kd.C (Kd.int .i64) w A3 at_.length at_) (hc3 : at_.length ≤ c3) (hn : row.length ≤ 1000 ∧ n ≤ 1000 ∧ at_.length ≤ 1000) (hra : ∀ i ∈ at_, 0 ≤ i ∧ i < (r.length : Int)) (hrl : ∀ x ∈ r, x.length ≤ 1000) (hk : 1 ≤ kind ∧ kind ≤ 4) :
    Calls Try.prog 19 #[.int .i64 kind, .slice A1 row.length c1, .slice A2 r.length c2, .slice A3 at_.length c3, .int .i64 (n : Int)] w fun e w' => ∃ v : Value, e = .returned v ∧ Kd.R (Kd.slice 43 k43) 38 w' w.heap.size (fun _ => True) v (joinedL kind row r at_ n) ∧ Below w.heap.size w w' := by
  have h4 : kind = 1 ∨ kind = 2 ∨ kind = 3 ∨ kind = 4 := by omega
  by_cases hat : at_ = []
  · rcases h4 with h | h | h | h
    · rw [show joinedL kind row r at_ n = at_.map (fun i => row ++ rd_L3 r i) by unfold joinedL; rw [if_neg (by omega), if_neg (by omega), if_neg (by omega)]]
      exact joined_inner kind A1 c1 row A2 c2 r A3 c3 at_ n w hR1 hc1 hR2 hc2 hR3 hc3 hn hra hrl h
    · rw [show joinedL kind row r at_ n = [row ++ List.replicate n nullV] by unfold joinedL; rw [if_neg (by omega), if_neg (by omega), if_pos ⟨h, hat⟩]]
      exact joined_left kind A1 c1 row A2 c2 r A3 c3 at_ n w hR1 hc1 hR2 hc2 hR3 hc3 hn hra hrl h hat
    · rw [show joinedL kind row r at_ n = [] by unfold joinedL; rw [if_pos h, if_pos hat]]
      exact joined_semi0 kind A1 c1 row A2 c2 r A3 c3 at_ n w hR1 hc1 hR2 hc2 hR3 hc3 hn hra hrl h hat
    · rw [show joinedL kind row r at_ n = [row] by unfold joinedL; rw [if_neg (by omega), if_pos h, if_pos hat]]
      exact joined_anti kind A1 c1 row A2 c2 r A3 c3 at_ n w hR1 hc1 hR2 hc2 hR3 hc3 hn hra hrl h hat
  · rcases h4 with h | h | h | h
    · rw [show joinedL kind row r at_ n = at_.map (fun i => row ++ rd_L3 r i) by unfold joinedL; rw [if_neg (by omega), if_neg (by omega), if_neg (by omega)]]
      exact joined_inner kind A1 c1 row A2 c2 r A3 c3 at_ n w hR1 hc1 hR2 hc2 hR3 hc3 hn hra hrl h
    · rw [show joinedL kind row r at_ n = at_.map (fun i => row ++ rd_L3 r i) by unfold joinedL; rw [if_neg (by omega), if_neg (by omega), if_neg (fun h => hat h.2)]]
      exact joined_leftin kind A1 c1 row A2 c2 r A3 c3 at_ n w hR1 hc1 hR2 hc2 hR3 hc3 hn hra hrl h hat
    · rw [show joinedL kind row r at_ n = [row] by unfold joinedL; rw [if_pos h, if_neg hat]]
      exact joined_semi kind A1 c1 row A2 c2 r A3 c3 at_ n w hR1 hc1 hR2 hc2 hR3 hc3 hn hra hrl h hat
    · rw [show joinedL kind row r at_ n = [] by unfold joinedL; rw [if_neg (by omega), if_pos h, if_neg hat]]
      exact joined_anti0 kind A1 c1 row A2 c2 r A3 c3 at_ n w hR1 hc1 hR2 hc2 hR3 hc3 hn hra hrl h hat
end Go.Proofs.Ytcbjkejboegmlaa.HW
