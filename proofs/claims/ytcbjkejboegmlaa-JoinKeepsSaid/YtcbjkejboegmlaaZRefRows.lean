import Derived.Test.YtcbjkejboegmlaaZJnZ
import Derived.Test.YtcbjkejboegmlaaZJnR
/- The reference's Rows, walked. -/
set_option linter.unusedVariables false
set_option linter.unusedSimpArgs false
namespace Go.Proofs.Ytcbjkejboegmlaa.HW
open Go.RowKit Go.Proofs.Ytcbjkejboegmlaa.P Go.Proofs.Ytcbjkejboegmlaa.HP Go.Proofs.YtcbjkejboegmlaaW.PrintWords Go.Proofs.YtcbjkejboegmlaaW.PrintLast Go.Proofs.YtcbjkejboegmlaaW.PrintMore
attribute [local go_sem] max2_int min2_int max_two min_two max_three min_three max_four min_four
def accP (kind : Int) (acc : List Key) (row : Key) (r : List Key) (lk rk : List Int) (j : Nat) : List Key := acc ++ (if kind ≤ 2 then (mP row r lk rk j).map (fun i => row ++ rd_L3 r i) else [])
theorem accP_yes {kind : Int} {acc : List Key} {row : Key} {r : List Key} {lk rk : List Int} {j : Nat} (hk : kind ≤ 2) (h : mB (ofL row lk) (ofL (r.getD j []) rk) = true) : accP kind acc row r lk rk (j + 1) = accP kind acc row r lk rk j ++ [row ++ r.getD j []] := by
  unfold accP
  rw [if_pos hk, if_pos hk, mP_yes h, List.map_append, List.append_assoc]
  simp [rdL_get]
theorem accP_over {kind : Int} {acc : List Key} {row : Key} {r : List Key} {lk rk : List Int} {j j' : Nat} (hk : ¬ kind ≤ 2) : accP kind acc row r lk rk j = accP kind acc row r lk rk j' := by
  unfold accP
  rw [if_neg hk, if_neg hk]
theorem accP_no {kind : Int} {acc : List Key} {row : Key} {r : List Key} {lk rk : List Int} {j : Nat} (h : mB (ofL row lk) (ofL (r.getD j []) rk) = false) : accP kind acc row r lk rk (j + 1) = accP kind acc row r lk rk j := by
  unfold accP
  rw [mP_no h]
theorem accP_len (kind : Int) (acc : List Key) (row : Key) (r : List Key) (lk rk : List Int) (j : Nat) : (accP kind acc row r lk rk j).length ≤ acc.length + j := by
  unfold accP
  have := mP_len row r lk rk j
  split
  · rw [List.length_append, List.length_map]; omega
  · simp
set_option maxHeartbeats 8000000 in
set_option maxRecDepth 100000 in
theorem RefRows_ (kind : Int) (A0 : Option Addr) (c0 : Nat) (l : List Key) (A1 : Option Addr) (c1 : Nat) (r : List Key) (A2 : Option Addr) (c2 : Nat) (lk : List Int) (A3 : Option Addr) (c3 : Nat) (rk : List Int) (n : Nat) (w : World)
    (hl : Kd.C (Kd.slice 43 k43) w A0 l.length l) (hcl : l.length ≤ c0) (hr : Kd.C (Kd.slice 43 k43) w A1 r.length r) (hcr : r.length ≤ c1) (hlk : Kd.C (Kd.int .i64) w A2 lk.length lk) (hclk : lk.length ≤ c2) (hrk : Kd.C (Kd.int .i64) w A3 rk.length rk) (hcrk : rk.length ≤ c3)
    (hln : l.length ≤ 400 ∧ r.length ≤ 400 ∧ lk.length = rk.length ∧ lk.length ≤ 100) (hcL : ∀ row ∈ l, ∀ c ∈ lk, 0 ≤ c ∧ c < (row.length : Int)) (hcR : ∀ row ∈ r, ∀ c ∈ rk, 0 ≤ c ∧ c < (row.length : Int))
    (hwL : ∀ row ∈ l, row.length ≤ 1000) (hwR : ∀ row ∈ r, row.length ≤ 1000) (hk : 1 ≤ kind ∧ kind ≤ 4) (hn : n ≤ 1000) :
    Calls Try.prog 11 #[.int .i64 kind, .slice A0 l.length c0, .slice A1 r.length c1, .slice A2 lk.length c2, .slice A3 rk.length c3, .int .i64 (n : Int)] w fun e w' => ∃ v : Value, e = .returned v ∧ Kd.R (Kd.slice 43 k43) 38 w' w.heap.size (fun _ => True) v (rowsL kind l r lk rk n) ∧ Below w.heap.size w w' := by
  have hmm := matchL_small (keysOf l lk) (keysOf r rk) (by rw [keysOf_len]; omega)
  have hma : ∀ i, i < l.length → (matchL (keysOf l lk) (keysOf r rk)).getD i [] = mP (l.getD i []) r lk rk r.length := fun i hi => by
    rw [matchL_at (by rw [keysOf_len]; exact hi), mP_all]
    congr 1
    simp [keysOf, List.getD_eq_getElem?_getD, hi]
  unfold rowsL
  obtain ⟨ms, hms⟩ : ∃ ms, ms = matchL (keysOf l lk) (keysOf r rk) := ⟨_, rfl⟩
  rw [← hms] at hmm hma ⊢
  have HMA := Aside0.mk hma
  have HAC := Aside0.mk (accL_len kind l r ms n hmm)
  have HL := Aside0.mk (And.intro hl (And.intro hr (And.intro hlk hrk)))
  have HCO := Aside0.mk (And.intro hcL hcR)
  have HWL := Aside0.mk (And.intro hwL hwR)
  have HLN := Aside0.mk hln
  have HK := Aside0.mk hk
  have HN := Aside0.mk hn
  have HB := Aside0.mk (Below.refl w.heap.size w)
  clear hl hcl hr hcr hlk hclk hrk hcrk hln hcL hcR hwL hwR hk hn hmm hma hms
  go_enter Try.func11, Try.ntmps11
  go_wp2_with fail
  go_loopg [13, 14] (l.length : Nat) (fun kq v13 v14 w' => ∃ i : Nat, v14 = .int .i64 (i : Int) ∧ Aside0 (i + kq = l.length) ∧ Aside0 (Kd.R (Kd.slice 43 k43) 38 w' w.heap.size (fun _ => True) v13 (accL kind l r ms n i)) ∧ Aside0 (Below w.heap.size w w'))
  case atStart => exact ⟨0, rfl, ⟨by omega⟩, ⟨Kd.R_nil _ _ _ _ _⟩, HB⟩
  case round =>
    clear HB
    obtain ⟨i, rfl, HI, HO, HB⟩ := hrel
    obtain ⟨vO, hvO⟩ : ∃ v, v = u13 := ⟨_, rfl⟩
    rw [← hvO] at HO ⊢
    clear hvO
    cases gk with
    | zero =>
      have hi : i = l.length := by have := HI.out; omega
      have cb : decide ((i : Int) < (l.length : Int)) = false := decide_eq_false (by omega)
      have cb2 : decide (i < l.length) = false := decide_eq_false (by omega)
      have HO2 : Aside0 (Kd.R (Kd.slice 43 k43) 38 wr w.heap.size (fun _ => True) vO (accL kind l r ms n l.length)) := ⟨by rw [← hi]; exact HO.out⟩
      clear hi
      go_wp2_with fail
      go_ret
      exact ⟨_, rfl, HO2.out, HB.out⟩
    | succ k1 =>
      have ci : i < l.length := by have := HI.out; omega
      have cb : decide ((i : Int) < (l.length : Int)) = true := decide_eq_true (by omega)
      have cb2 : decide (i < l.length) = true := decide_eq_true ci
      have wi : wrap64 ((i : Int) + 1) = (i : Int) + 1 := by unfold wrap64; have := HLN.out; omega
      obtain ⟨wo, hwo⟩ : ∃ V, V = wr := ⟨_, rfl⟩
      rw [← hwo] at HB HO ⊢
      clear hwo
      obtain ⟨adl, Al, cl, e2, hy, hck, hCk⟩ := at_L3 HL.out.1 (i : Int) (by omega) (by omega)
      subst e2
      rw [rdL_get, Int.toNat_natCast] at hy
      rw [rdL_get] at hck hCk
      have hmem := getD_lt_mem l i ci
      have hrl := HWL.out.1 _ hmem
      have hcols := fun c hc => HCO.out.1 _ hmem c hc
      have hma := HMA.out i ci
      have hstep := accL_succ kind l r ms n i
      have hacl := HAC.out i
      rw [hma] at hstep
      obtain ⟨row, hr0⟩ : ∃ row, row = l.getD i [] := ⟨_, rfl⟩
      rw [← hr0] at hy hck hCk hrl hcols hstep
      obtain ⟨acc, hacc⟩ : ∃ a, a = accL kind l r ms n i := ⟨_, rfl⟩
      rw [← hacc] at hstep hacl HO
      have HY := Aside0.mk hy
      have HCK := Aside0.mk (And.intro hck hCk)
      have HRL := Aside0.mk hrl
      have HCOL := Aside0.mk hcols
      have HSTEP := Aside0.mk hstep
      have HACL : Aside0 (acc.length ≤ 401 * 400) := ⟨by have := HLN.out; omega⟩
      have hO0 : Kd.R (Kd.slice 43 k43) 38 wo w.heap.size (fun _ => True) vO (accP kind acc row r lk rk 0) := by
        have e : accP kind acc row r lk rk 0 = acc := by unfold accP; simp [mP]
        rw [e]
        exact HO.out
      have HO0 := Aside0.mk hO0
      have HBO := Aside0.mk (Below.refl w.heap.size wo)
      have HBC := Aside0.mk HB.out
      clear hy hck hCk hrl hcols hma hstep hacl hmem hr0 hacc hO0 ci HO
      go_wp2_with fail
      go_loopg [13, 15, 16] (r.length : Nat) (fun kq v13 v15 v16 w' => ∃ j N : Nat, v16 = .int .i64 (j : Int) ∧ v15 = .int .i64 (N : Int) ∧ Aside0 (j + kq = r.length) ∧ Aside0 (N = (mP row r lk rk j).length) ∧ Aside0 (Kd.R (Kd.slice 43 k43) 38 w' w.heap.size (fun _ => True) v13 (accP kind acc row r lk rk j)) ∧ Aside0 (Below w.heap.size wo w'))
      case atStart => exact ⟨0, 0, rfl, rfl, ⟨by omega⟩, ⟨by simp [mP]⟩, HO0, HBO⟩
      case round =>
        clear HO0 HBO
        obtain ⟨j, N, rfl, rfl, HJ, HNN, HO, HBV⟩ := hrel
        obtain ⟨vP, hvP⟩ : ∃ v, v = u13 := ⟨_, rfl⟩
        rw [← hvP] at HO ⊢
        clear hvP
        have HX := Aside0.mk (HB.out.trans HBV.out)
        cases gk with
        | zero =>
          have hj : j = r.length := by have := HJ.out; omega
          have cj : decide ((j : Int) < (r.length : Int)) = false := decide_eq_false (by omega)
          have cj2 : decide (j < r.length) = false := decide_eq_false (by omega)
          have hlc : wr.cell? (adl.add i) = some (.slice Al row.length cl) := cell_later_ HY.out HX.out
          have HRR := Aside0.mk (Below.refl wr.heap.size wr)
          have hal := accP_len kind acc row r lk rk r.length
          have HI1 : Aside0 ((i : Int) + 1 = ((i + 1 : Nat) : Int)) := ⟨by omega⟩
          have p0 : ((0 : Int) ≤ (i : Int)) = True := eq_true (by omega)
          have q0 : ((i : Int) < (l.length : Int)) = True := eq_true (by have := HI.out; omega)
          have q0n : (i < l.length) = True := eq_true (by have := HI.out; omega)
          rw [hj] at HO HNN
          obtain ⟨M, hM⟩ : ∃ M, M = mP row r lk rk r.length := ⟨_, rfl⟩
          obtain ⟨AF, hAF⟩ : ∃ a, a = accP kind acc row r lk rk r.length := ⟨_, rfl⟩
          have hAFe : AF = acc ++ (if kind ≤ 2 then M.map (fun i => row ++ rd_L3 r i) else []) := by rw [hAF, hM]; rfl
          rw [← hAF] at HO hal
          rw [← hM] at HNN HSTEP
          have HAF : Aside0 (AF.length ≤ 1000000) := ⟨by have := HACL.out; have := HLN.out; omega⟩
          have HAE := Aside0.mk hAFe
          have hk14 : kind = 1 ∨ kind = 2 ∨ kind = 3 ∨ kind = 4 := by have := HK.out; omega
          obtain ⟨wt, hwt⟩ : ∃ V, V = wr := ⟨_, rfl⟩
          rw [← hwt] at HO HX HBV HRR hlc ⊢
          clear hj HJ hM hAF hAFe hal hwt
          by_cases hM0 : M = []
          · subst hM0
            have hN0 : N = 0 := by simpa using HNN.out
            subst hN0
            clear HNN
            rcases hk14 with rfl | rfl | rfl | rfl
            · have HE : Aside0 (accL 1 l r ms n (i + 1) = AF) := ⟨by rw [HSTEP.out, HAE.out]; simp [joinedL]⟩
              go_wp2_with (first | ((with_reducible refine gate_dst (N := 60) rfl ?_); refine Kd.R_lit k43 (w0 := wt) wt.heap.size 43 ?hg (N := 60) ?hd (xs := ([] : List S43)) (inner := []) (ok := fun _ => True) (okp := fun _ => True) ?hr ?hp (fun _ _ => trivial) trivial ?hB ?hS (by simp) ?_; (case hd => rfl); (case hg => rfl); (case hr => first | (go_simp; done) | (go_simp; rfl)); (case hp => exact Reps.none _ _); (case hB => exact HRR.out); (case hS => exact Nat.le_refl _); intro v60 w60 ho hb hg hat; have hlc6 : w60.cell? (adl.add i) = some (.slice Al row.length cl) := cell_later_ HY.out (HX.out.trans (hb.mono (below_size HX.out))); have HO60 := Aside0.mk ho; have HB60 := Aside0.mk hb; clear ho hb hg hat) | ((with_reducible refine gate_builtin (b := .append) (xs := #[.tmp 60, .tmp 64]) rfl ?_); at_builtin; refine Kd.R_append_rows k43 (Rr := RV) (w0 := wt) wt.heap.size rfl (.tmp 60) (.tmp 64) 38 43 (.agg #[.bool false, .string ⟨#[]⟩]) 24 rfl Try.underlying38 info43 rfl (by decide) (by omega) v60 ([] : List S43) row Al (List.length row) cl (fun _ => True) (fun _ => False) rfl rfl ?aO ?aR (fun x cs h => RV_M _ _ _ x cs h) (fun _ h => h.elim) ?aF ?aB ?aS ?aL ?_; (case aO => exact HO60.out); (case aR => exact C_RV (Kd.C_below HCK.out.2 (HX.out.trans (HB60.out.mono (below_size HX.out))))); (case aF => exact (fun _ _ => trivial)); (case aB => exact HB60.out); (case aS => exact below_size HB60.out); (case aL => have h9 := HRL.out; (try simp only [List.length_nil]); omega); intro v65 w65 ho hb hg hat; rw [List.nil_append] at ho; obtain ⟨A65, c65, e65⟩ := Kd.R_slice ho; subst e65; have HO65 := Aside0.mk ho; have HB65 := Aside0.mk hb; clear ho hb hg hat hlc6))
              go_roundg k1
              case measure => omega
              case rel => exact ⟨i + 1, by first | rw [wi, HI1.out] | rw [HI1.out], ⟨by have := HI.out; omega⟩, ⟨by rw [HE.out]; exact Kd.R_below HO.out HB65.out⟩, ⟨HX.out.trans (HB65.out.mono (below_size HX.out))⟩⟩
            · have HE : Aside0 (accL 2 l r ms n (i + 1) = AF ++ [row ++ List.replicate n nullV]) := ⟨by rw [HSTEP.out, HAE.out]; simp [joinedL]⟩
              go_wp2_with (first | ((with_reducible refine gate_dst (N := 60) rfl ?_); refine Kd.R_lit k43 (w0 := wt) wt.heap.size 43 ?hg (N := 60) ?hd (xs := ([] : List S43)) (inner := []) (ok := fun _ => True) (okp := fun _ => True) ?hr ?hp (fun _ _ => trivial) trivial ?hB ?hS (by simp) ?_; (case hd => rfl); (case hg => rfl); (case hr => first | (go_simp; done) | (go_simp; rfl)); (case hp => exact Reps.none _ _); (case hB => exact HRR.out); (case hS => exact Nat.le_refl _); intro v60 w60 ho hb hg hat; have hlc6 : w60.cell? (adl.add i) = some (.slice Al row.length cl) := cell_later_ HY.out (HX.out.trans (hb.mono (below_size HX.out))); have HO60 := Aside0.mk ho; have HB60 := Aside0.mk hb; clear ho hb hg hat) | ((with_reducible refine gate_builtin (b := .append) (xs := #[.tmp 60, .tmp 64]) rfl ?_); at_builtin; refine Kd.R_append_rows k43 (Rr := RV) (w0 := wt) wt.heap.size rfl (.tmp 60) (.tmp 64) 38 43 (.agg #[.bool false, .string ⟨#[]⟩]) 24 rfl Try.underlying38 info43 rfl (by decide) (by omega) v60 ([] : List S43) row Al (List.length row) cl (fun _ => True) (fun _ => False) rfl rfl ?aO ?aR (fun x cs h => RV_M _ _ _ x cs h) (fun _ h => h.elim) ?aF ?aB ?aS ?aL ?_; (case aO => exact HO60.out); (case aR => exact C_RV (Kd.C_below HCK.out.2 (HX.out.trans (HB60.out.mono (below_size HX.out))))); (case aF => exact (fun _ _ => trivial)); (case aB => exact HB60.out); (case aS => exact below_size HB60.out); (case aL => have h9 := HRL.out; (try simp only [List.length_nil]); omega); intro v65 w65 ho hb hg hat; rw [List.nil_append] at ho; obtain ⟨A65, c65, e65⟩ := Kd.R_slice ho; subst e65; have HO65 := Aside0.mk ho; have HB65 := Aside0.mk hb; clear ho hb hg hat hlc6))
              have HO65b : Aside0 (Kd.R k43 43 w65 wt.heap.size (fun _ => True) (.slice A65 (List.length row) c65) (row ++ List.replicate 0 nullV)) := ⟨by rw [List.replicate_zero, List.append_nil]; exact HO65.out⟩
              go_loopg [17, 18] (n : Nat) (fun kq v17 v18 w' => ∃ k : Nat, v18 = .int .i64 (k : Int) ∧ Aside0 (k + kq = n) ∧ Aside0 (Kd.R k43 43 w' wt.heap.size (fun _ => True) v17 (row ++ List.replicate k nullV)) ∧ Aside0 (Below wt.heap.size wt w'))
              case atStart => exact ⟨0, rfl, ⟨by omega⟩, HO65b, HB65⟩
              case round =>
                clear HO65 HO65b HB65
                obtain ⟨k, rfl, HQK, HQ, HQB⟩ := hrel
                obtain ⟨vQ, hvQ⟩ : ∃ v, v = u17 := ⟨_, rfl⟩
                rw [← hvQ] at HQ ⊢
                clear hvQ
                cases gk with
                | zero =>
                  have hk : k = n := by have := HQK.out; omega
                  have ck : decide ((k : Int) < (n : Int)) = false := decide_eq_false (by omega)
                  have ck2 : decide (k < n) = false := decide_eq_false (by omega)
                  rw [hk] at HQ
                  obtain ⟨big, hbig⟩ : ∃ b, b = row ++ List.replicate n nullV := ⟨_, rfl⟩
                  rw [← hbig] at HQ HE
                  obtain ⟨A80, c80, e80⟩ := Kd.R_slice HQ.out
                  subst e80
                  clear hbig hk HQK
                  go_wp2_with (first | ((with_reducible refine gate_builtin (b := .append) (xs := #[.tmp 81, .tmp 83]) rfl ?_); at_builtin; refine Kd.R_append (Kd.slice 43 k43) (w0 := wo) w.heap.size rfl (.tmp 81) (.tmp 83) 22 38 (.slice none 0 0) 24 rfl Try.underlying22 info38 rfl (by decide) (by omega) vP AF big [.slice A80 (List.length big) c80] (fun _ => True) (fun k => some k = (Value.slice A80 (List.length big) c80).ownBlock) rfl rfl ?aP ?aK ?aF ?aO ?aB ?aS ?aL ?_; (case aP => exact M_row (Kd.R_lower HQ.out (below_size HX.out))); (case aK => exact (fun k hk => ⟨trivial, fun e => by have h1 := Kd.R_base HQ.out k hk.symm; have h2 := Kd.R_lt HO.out k e.symm; omega⟩)); (case aF => exact (fun _ _ => trivial)); (case aO => exact Kd.R_below HO.out HQB.out); (case aB => exact HBV.out.trans (HQB.out.mono (below_size HX.out))); (case aS => exact Nat.le_trans (below_size HX.out) (below_size HQB.out)); (case aL => have h9 := HAF.out; omega); intro v70 w70 ho hb hg hat; have HO70 := Aside0.mk ho; have HB70 := Aside0.mk hb; clear ho hb hg hat))
                  go_roundg k1
                  case measure => omega
                  case rel => exact ⟨i + 1, by first | rw [wi, HI1.out] | rw [HI1.out], ⟨by have := HI.out; omega⟩, ⟨by rw [HE.out]; exact HO70.out⟩, ⟨HB.out.trans HB70.out⟩⟩
                | succ k3 =>
                  have ck : decide ((k : Int) < (n : Int)) = true := decide_eq_true (by have := HQK.out; omega)
                  have ck2 : decide (k < n) = true := decide_eq_true (by have := HQK.out; omega)
                  have wk : wrap64 ((k : Int) + 1) = (k : Int) + 1 := by unfold wrap64; have := HN.out; have := HQK.out; omega
                  have HK1 : Aside0 ((k : Int) + 1 = ((k + 1 : Nat) : Int)) := ⟨by omega⟩
                  go_wp2_with (first | ((with_reducible refine gate_builtin (b := .append) (xs := #[.tmp 77, .tmp 79]) rfl ?_); at_builtin; refine Kd.R_append k43 (w0 := wt) wt.heap.size rfl (.tmp 77) (.tmp 79) 38 43 (.agg #[.bool false, .string ⟨#[]⟩]) 24 rfl Try.underlying38 info43 rfl (by decide) (by omega) vQ (row ++ List.replicate k nullV) nullV [.bool true, .string ⟨#[]⟩] (fun _ => True) (fun _ => False) rfl rfl ?aP (fun _ hk => hk.elim) ?aF ?aO ?aB ?aS ?aL ?_; (case aP => exact k43_mkM _ _ _ nullV); (case aF => exact (fun _ _ => trivial)); (case aO => exact HQ.out); (case aB => exact HQB.out); (case aS => exact below_size HQB.out); (case aL => have h9 := HRL.out; have h8 := HN.out; have h7 := HQK.out; simp only [List.length_append, List.length_replicate]; omega); intro v80 w80 ho hb hg hat; rw [List.append_assoc, ← List.replicate_succ'] at ho; have HO80 := Aside0.mk ho; have HB80 := Aside0.mk hb; clear ho hb hg hat))
                  go_roundg k3
                  case measure => omega
                  case rel => exact ⟨k + 1, by first | rw [wk, HK1.out] | rw [HK1.out], ⟨by have := HQK.out; omega⟩, HO80, HB80⟩
            · have HE : Aside0 (accL 3 l r ms n (i + 1) = AF) := ⟨by rw [HSTEP.out, HAE.out]; simp [joinedL]⟩
              go_wp2_with (first | ((with_reducible refine gate_dst (N := 60) rfl ?_); refine Kd.R_lit k43 (w0 := wt) wt.heap.size 43 ?hg (N := 60) ?hd (xs := ([] : List S43)) (inner := []) (ok := fun _ => True) (okp := fun _ => True) ?hr ?hp (fun _ _ => trivial) trivial ?hB ?hS (by simp) ?_; (case hd => rfl); (case hg => rfl); (case hr => first | (go_simp; done) | (go_simp; rfl)); (case hp => exact Reps.none _ _); (case hB => exact HRR.out); (case hS => exact Nat.le_refl _); intro v60 w60 ho hb hg hat; have hlc6 : w60.cell? (adl.add i) = some (.slice Al row.length cl) := cell_later_ HY.out (HX.out.trans (hb.mono (below_size HX.out))); have HO60 := Aside0.mk ho; have HB60 := Aside0.mk hb; clear ho hb hg hat) | ((with_reducible refine gate_builtin (b := .append) (xs := #[.tmp 60, .tmp 64]) rfl ?_); at_builtin; refine Kd.R_append_rows k43 (Rr := RV) (w0 := wt) wt.heap.size rfl (.tmp 60) (.tmp 64) 38 43 (.agg #[.bool false, .string ⟨#[]⟩]) 24 rfl Try.underlying38 info43 rfl (by decide) (by omega) v60 ([] : List S43) row Al (List.length row) cl (fun _ => True) (fun _ => False) rfl rfl ?aO ?aR (fun x cs h => RV_M _ _ _ x cs h) (fun _ h => h.elim) ?aF ?aB ?aS ?aL ?_; (case aO => exact HO60.out); (case aR => exact C_RV (Kd.C_below HCK.out.2 (HX.out.trans (HB60.out.mono (below_size HX.out))))); (case aF => exact (fun _ _ => trivial)); (case aB => exact HB60.out); (case aS => exact below_size HB60.out); (case aL => have h9 := HRL.out; (try simp only [List.length_nil]); omega); intro v65 w65 ho hb hg hat; rw [List.nil_append] at ho; obtain ⟨A65, c65, e65⟩ := Kd.R_slice ho; subst e65; have HO65 := Aside0.mk ho; have HB65 := Aside0.mk hb; clear ho hb hg hat hlc6))
              go_roundg k1
              case measure => omega
              case rel => exact ⟨i + 1, by first | rw [wi, HI1.out] | rw [HI1.out], ⟨by have := HI.out; omega⟩, ⟨by rw [HE.out]; exact Kd.R_below HO.out HB65.out⟩, ⟨HX.out.trans (HB65.out.mono (below_size HX.out))⟩⟩
            · have HE : Aside0 (accL 4 l r ms n (i + 1) = AF ++ [row]) := ⟨by rw [HSTEP.out, HAE.out]; simp [joinedL]⟩
              go_wp2_with (first | ((with_reducible refine gate_dst (N := 60) rfl ?_); refine Kd.R_lit k43 (w0 := wt) wt.heap.size 43 ?hg (N := 60) ?hd (xs := ([] : List S43)) (inner := []) (ok := fun _ => True) (okp := fun _ => True) ?hr ?hp (fun _ _ => trivial) trivial ?hB ?hS (by simp) ?_; (case hd => rfl); (case hg => rfl); (case hr => first | (go_simp; done) | (go_simp; rfl)); (case hp => exact Reps.none _ _); (case hB => exact HRR.out); (case hS => exact Nat.le_refl _); intro v60 w60 ho hb hg hat; have hlc6 : w60.cell? (adl.add i) = some (.slice Al row.length cl) := cell_later_ HY.out (HX.out.trans (hb.mono (below_size HX.out))); have HO60 := Aside0.mk ho; have HB60 := Aside0.mk hb; clear ho hb hg hat) | ((with_reducible refine gate_builtin (b := .append) (xs := #[.tmp 60, .tmp 64]) rfl ?_); at_builtin; refine Kd.R_append_rows k43 (Rr := RV) (w0 := wt) wt.heap.size rfl (.tmp 60) (.tmp 64) 38 43 (.agg #[.bool false, .string ⟨#[]⟩]) 24 rfl Try.underlying38 info43 rfl (by decide) (by omega) v60 ([] : List S43) row Al (List.length row) cl (fun _ => True) (fun _ => False) rfl rfl ?aO ?aR (fun x cs h => RV_M _ _ _ x cs h) (fun _ h => h.elim) ?aF ?aB ?aS ?aL ?_; (case aO => exact HO60.out); (case aR => exact C_RV (Kd.C_below HCK.out.2 (HX.out.trans (HB60.out.mono (below_size HX.out))))); (case aF => exact (fun _ _ => trivial)); (case aB => exact HB60.out); (case aS => exact below_size HB60.out); (case aL => have h9 := HRL.out; (try simp only [List.length_nil]); omega); intro v65 w65 ho hb hg hat; rw [List.nil_append] at ho; obtain ⟨A65, c65, e65⟩ := Kd.R_slice ho; subst e65; have HO65 := Aside0.mk ho; have HB65 := Aside0.mk hb; clear ho hb hg hat hlc6) | ((with_reducible refine gate_builtin (b := .append) (xs := #[.tmp 99, .tmp 101]) rfl ?_); at_builtin; refine Kd.R_append (Kd.slice 43 k43) (w0 := wo) w.heap.size rfl (.tmp 99) (.tmp 101) 22 38 (.slice none 0 0) 24 rfl Try.underlying22 info38 rfl (by decide) (by omega) vP AF row [.slice A65 (List.length row) c65] (fun _ => True) (fun k => some k = (Value.slice A65 (List.length row) c65).ownBlock) rfl rfl ?aP ?aK ?aF ?aO ?aB ?aS ?aL ?_; (case aP => exact M_row (Kd.R_lower HO65.out (below_size HX.out))); (case aK => exact (fun k hk => ⟨trivial, fun e => by have h1 := Kd.R_base HO65.out k hk.symm; have h2 := Kd.R_lt HO.out k e.symm; omega⟩)); (case aF => exact (fun _ _ => trivial)); (case aO => exact Kd.R_below HO.out HB65.out); (case aB => exact HBV.out.trans (HB65.out.mono (below_size HX.out))); (case aS => exact Nat.le_trans (below_size HX.out) (below_size HB65.out)); (case aL => have h9 := HAF.out; omega); intro v70 w70 ho hb hg hat; have HO70 := Aside0.mk ho; have HB70 := Aside0.mk hb; clear ho hb hg hat))
              go_roundg k1
              case measure => omega
              case rel => exact ⟨i + 1, by first | rw [wi, HI1.out] | rw [HI1.out], ⟨by have := HI.out; omega⟩, ⟨by rw [HE.out]; exact HO70.out⟩, ⟨HB.out.trans HB70.out⟩⟩
          · have hNp : 0 < N := by rw [HNN.out]; exact List.length_pos_iff.2 hM0
            have t0 : ((N : Int) == 0) = false := beq_eq_false_iff_ne.2 (by omega)
            have t0n : (N == 0) = false := beq_eq_false_iff_ne.2 (by omega)
            have t1 : decide ((0 : Int) < (N : Int)) = true := decide_eq_true (by omega)
            have t1n : decide (0 < N) = true := decide_eq_true hNp
            have HM0 := Aside0.mk hM0
            clear hNp hM0
            rcases hk14 with rfl | rfl | rfl | rfl
            · have HE : Aside0 (accL 1 l r ms n (i + 1) = AF) := ⟨by rw [HSTEP.out, HAE.out]; simp [joinedL]⟩
              go_wp2_with (first | ((with_reducible refine gate_dst (N := 60) rfl ?_); refine Kd.R_lit k43 (w0 := wt) wt.heap.size 43 ?hg (N := 60) ?hd (xs := ([] : List S43)) (inner := []) (ok := fun _ => True) (okp := fun _ => True) ?hr ?hp (fun _ _ => trivial) trivial ?hB ?hS (by simp) ?_; (case hd => rfl); (case hg => rfl); (case hr => first | (go_simp; done) | (go_simp; rfl)); (case hp => exact Reps.none _ _); (case hB => exact HRR.out); (case hS => exact Nat.le_refl _); intro v60 w60 ho hb hg hat; have hlc6 : w60.cell? (adl.add i) = some (.slice Al row.length cl) := cell_later_ HY.out (HX.out.trans (hb.mono (below_size HX.out))); have HO60 := Aside0.mk ho; have HB60 := Aside0.mk hb; clear ho hb hg hat) | ((with_reducible refine gate_builtin (b := .append) (xs := #[.tmp 60, .tmp 64]) rfl ?_); at_builtin; refine Kd.R_append_rows k43 (Rr := RV) (w0 := wt) wt.heap.size rfl (.tmp 60) (.tmp 64) 38 43 (.agg #[.bool false, .string ⟨#[]⟩]) 24 rfl Try.underlying38 info43 rfl (by decide) (by omega) v60 ([] : List S43) row Al (List.length row) cl (fun _ => True) (fun _ => False) rfl rfl ?aO ?aR (fun x cs h => RV_M _ _ _ x cs h) (fun _ h => h.elim) ?aF ?aB ?aS ?aL ?_; (case aO => exact HO60.out); (case aR => exact C_RV (Kd.C_below HCK.out.2 (HX.out.trans (HB60.out.mono (below_size HX.out))))); (case aF => exact (fun _ _ => trivial)); (case aB => exact HB60.out); (case aS => exact below_size HB60.out); (case aL => have h9 := HRL.out; (try simp only [List.length_nil]); omega); intro v65 w65 ho hb hg hat; rw [List.nil_append] at ho; obtain ⟨A65, c65, e65⟩ := Kd.R_slice ho; subst e65; have HO65 := Aside0.mk ho; have HB65 := Aside0.mk hb; clear ho hb hg hat hlc6))
              go_roundg k1
              case measure => omega
              case rel => exact ⟨i + 1, by first | rw [wi, HI1.out] | rw [HI1.out], ⟨by have := HI.out; omega⟩, ⟨by rw [HE.out]; exact Kd.R_below HO.out HB65.out⟩, ⟨HX.out.trans (HB65.out.mono (below_size HX.out))⟩⟩
            · have HE : Aside0 (accL 2 l r ms n (i + 1) = AF) := ⟨by rw [HSTEP.out, HAE.out]; simp [joinedL, HM0.out]⟩
              go_wp2_with (first | ((with_reducible refine gate_dst (N := 60) rfl ?_); refine Kd.R_lit k43 (w0 := wt) wt.heap.size 43 ?hg (N := 60) ?hd (xs := ([] : List S43)) (inner := []) (ok := fun _ => True) (okp := fun _ => True) ?hr ?hp (fun _ _ => trivial) trivial ?hB ?hS (by simp) ?_; (case hd => rfl); (case hg => rfl); (case hr => first | (go_simp; done) | (go_simp; rfl)); (case hp => exact Reps.none _ _); (case hB => exact HRR.out); (case hS => exact Nat.le_refl _); intro v60 w60 ho hb hg hat; have hlc6 : w60.cell? (adl.add i) = some (.slice Al row.length cl) := cell_later_ HY.out (HX.out.trans (hb.mono (below_size HX.out))); have HO60 := Aside0.mk ho; have HB60 := Aside0.mk hb; clear ho hb hg hat) | ((with_reducible refine gate_builtin (b := .append) (xs := #[.tmp 60, .tmp 64]) rfl ?_); at_builtin; refine Kd.R_append_rows k43 (Rr := RV) (w0 := wt) wt.heap.size rfl (.tmp 60) (.tmp 64) 38 43 (.agg #[.bool false, .string ⟨#[]⟩]) 24 rfl Try.underlying38 info43 rfl (by decide) (by omega) v60 ([] : List S43) row Al (List.length row) cl (fun _ => True) (fun _ => False) rfl rfl ?aO ?aR (fun x cs h => RV_M _ _ _ x cs h) (fun _ h => h.elim) ?aF ?aB ?aS ?aL ?_; (case aO => exact HO60.out); (case aR => exact C_RV (Kd.C_below HCK.out.2 (HX.out.trans (HB60.out.mono (below_size HX.out))))); (case aF => exact (fun _ _ => trivial)); (case aB => exact HB60.out); (case aS => exact below_size HB60.out); (case aL => have h9 := HRL.out; (try simp only [List.length_nil]); omega); intro v65 w65 ho hb hg hat; rw [List.nil_append] at ho; obtain ⟨A65, c65, e65⟩ := Kd.R_slice ho; subst e65; have HO65 := Aside0.mk ho; have HB65 := Aside0.mk hb; clear ho hb hg hat hlc6))
              go_roundg k1
              case measure => omega
              case rel => exact ⟨i + 1, by first | rw [wi, HI1.out] | rw [HI1.out], ⟨by have := HI.out; omega⟩, ⟨by rw [HE.out]; exact Kd.R_below HO.out HB65.out⟩, ⟨HX.out.trans (HB65.out.mono (below_size HX.out))⟩⟩
            · have HE : Aside0 (accL 3 l r ms n (i + 1) = AF ++ [row]) := ⟨by rw [HSTEP.out, HAE.out]; simp [joinedL, HM0.out]⟩
              go_wp2_with (first | ((with_reducible refine gate_dst (N := 60) rfl ?_); refine Kd.R_lit k43 (w0 := wt) wt.heap.size 43 ?hg (N := 60) ?hd (xs := ([] : List S43)) (inner := []) (ok := fun _ => True) (okp := fun _ => True) ?hr ?hp (fun _ _ => trivial) trivial ?hB ?hS (by simp) ?_; (case hd => rfl); (case hg => rfl); (case hr => first | (go_simp; done) | (go_simp; rfl)); (case hp => exact Reps.none _ _); (case hB => exact HRR.out); (case hS => exact Nat.le_refl _); intro v60 w60 ho hb hg hat; have hlc6 : w60.cell? (adl.add i) = some (.slice Al row.length cl) := cell_later_ HY.out (HX.out.trans (hb.mono (below_size HX.out))); have HO60 := Aside0.mk ho; have HB60 := Aside0.mk hb; clear ho hb hg hat) | ((with_reducible refine gate_builtin (b := .append) (xs := #[.tmp 60, .tmp 64]) rfl ?_); at_builtin; refine Kd.R_append_rows k43 (Rr := RV) (w0 := wt) wt.heap.size rfl (.tmp 60) (.tmp 64) 38 43 (.agg #[.bool false, .string ⟨#[]⟩]) 24 rfl Try.underlying38 info43 rfl (by decide) (by omega) v60 ([] : List S43) row Al (List.length row) cl (fun _ => True) (fun _ => False) rfl rfl ?aO ?aR (fun x cs h => RV_M _ _ _ x cs h) (fun _ h => h.elim) ?aF ?aB ?aS ?aL ?_; (case aO => exact HO60.out); (case aR => exact C_RV (Kd.C_below HCK.out.2 (HX.out.trans (HB60.out.mono (below_size HX.out))))); (case aF => exact (fun _ _ => trivial)); (case aB => exact HB60.out); (case aS => exact below_size HB60.out); (case aL => have h9 := HRL.out; (try simp only [List.length_nil]); omega); intro v65 w65 ho hb hg hat; rw [List.nil_append] at ho; obtain ⟨A65, c65, e65⟩ := Kd.R_slice ho; subst e65; have HO65 := Aside0.mk ho; have HB65 := Aside0.mk hb; clear ho hb hg hat hlc6) | ((with_reducible refine gate_builtin (b := .append) (xs := #[.tmp 99, .tmp 101]) rfl ?_); at_builtin; refine Kd.R_append (Kd.slice 43 k43) (w0 := wo) w.heap.size rfl (.tmp 99) (.tmp 101) 22 38 (.slice none 0 0) 24 rfl Try.underlying22 info38 rfl (by decide) (by omega) vP AF row [.slice A65 (List.length row) c65] (fun _ => True) (fun k => some k = (Value.slice A65 (List.length row) c65).ownBlock) rfl rfl ?aP ?aK ?aF ?aO ?aB ?aS ?aL ?_; (case aP => exact M_row (Kd.R_lower HO65.out (below_size HX.out))); (case aK => exact (fun k hk => ⟨trivial, fun e => by have h1 := Kd.R_base HO65.out k hk.symm; have h2 := Kd.R_lt HO.out k e.symm; omega⟩)); (case aF => exact (fun _ _ => trivial)); (case aO => exact Kd.R_below HO.out HB65.out); (case aB => exact HBV.out.trans (HB65.out.mono (below_size HX.out))); (case aS => exact Nat.le_trans (below_size HX.out) (below_size HB65.out)); (case aL => have h9 := HAF.out; omega); intro v70 w70 ho hb hg hat; have HO70 := Aside0.mk ho; have HB70 := Aside0.mk hb; clear ho hb hg hat))
              go_roundg k1
              case measure => omega
              case rel => exact ⟨i + 1, by first | rw [wi, HI1.out] | rw [HI1.out], ⟨by have := HI.out; omega⟩, ⟨by rw [HE.out]; exact HO70.out⟩, ⟨HB.out.trans HB70.out⟩⟩
            · have HE : Aside0 (accL 4 l r ms n (i + 1) = AF) := ⟨by rw [HSTEP.out, HAE.out]; simp [joinedL, HM0.out]⟩
              go_wp2_with (first | ((with_reducible refine gate_dst (N := 60) rfl ?_); refine Kd.R_lit k43 (w0 := wt) wt.heap.size 43 ?hg (N := 60) ?hd (xs := ([] : List S43)) (inner := []) (ok := fun _ => True) (okp := fun _ => True) ?hr ?hp (fun _ _ => trivial) trivial ?hB ?hS (by simp) ?_; (case hd => rfl); (case hg => rfl); (case hr => first | (go_simp; done) | (go_simp; rfl)); (case hp => exact Reps.none _ _); (case hB => exact HRR.out); (case hS => exact Nat.le_refl _); intro v60 w60 ho hb hg hat; have hlc6 : w60.cell? (adl.add i) = some (.slice Al row.length cl) := cell_later_ HY.out (HX.out.trans (hb.mono (below_size HX.out))); have HO60 := Aside0.mk ho; have HB60 := Aside0.mk hb; clear ho hb hg hat) | ((with_reducible refine gate_builtin (b := .append) (xs := #[.tmp 60, .tmp 64]) rfl ?_); at_builtin; refine Kd.R_append_rows k43 (Rr := RV) (w0 := wt) wt.heap.size rfl (.tmp 60) (.tmp 64) 38 43 (.agg #[.bool false, .string ⟨#[]⟩]) 24 rfl Try.underlying38 info43 rfl (by decide) (by omega) v60 ([] : List S43) row Al (List.length row) cl (fun _ => True) (fun _ => False) rfl rfl ?aO ?aR (fun x cs h => RV_M _ _ _ x cs h) (fun _ h => h.elim) ?aF ?aB ?aS ?aL ?_; (case aO => exact HO60.out); (case aR => exact C_RV (Kd.C_below HCK.out.2 (HX.out.trans (HB60.out.mono (below_size HX.out))))); (case aF => exact (fun _ _ => trivial)); (case aB => exact HB60.out); (case aS => exact below_size HB60.out); (case aL => have h9 := HRL.out; (try simp only [List.length_nil]); omega); intro v65 w65 ho hb hg hat; rw [List.nil_append] at ho; obtain ⟨A65, c65, e65⟩ := Kd.R_slice ho; subst e65; have HO65 := Aside0.mk ho; have HB65 := Aside0.mk hb; clear ho hb hg hat hlc6))
              go_roundg k1
              case measure => omega
              case rel => exact ⟨i + 1, by first | rw [wi, HI1.out] | rw [HI1.out], ⟨by have := HI.out; omega⟩, ⟨by rw [HE.out]; exact Kd.R_below HO.out HB65.out⟩, ⟨HX.out.trans (HB65.out.mono (below_size HX.out))⟩⟩
        | succ k2 =>
          have cij : j < r.length := by have := HJ.out; omega
          have cj : decide ((j : Int) < (r.length : Int)) = true := decide_eq_true (by omega)
          have cj2 : decide (j < r.length) = true := decide_eq_true cij
          have wj : wrap64 ((j : Int) + 1) = (j : Int) + 1 := by unfold wrap64; have := HLN.out; omega
          have hNl := mP_len row r lk rk j
          have wN : wrap64 ((N : Int) + 1) = (N : Int) + 1 := by unfold wrap64; have := HLN.out; have := HNN.out; omega
          obtain ⟨adr, Aj, cj0, e5, hrc0, hrk', hrC⟩ := at_L3 HL.out.2.1 (j : Int) (by omega) (by omega)
          subst e5
          rw [rdL_get, Int.toNat_natCast] at hrc0
          rw [rdL_get] at hrk' hrC
          have hmem2 := getD_lt_mem r j cij
          have hcolr := fun c hc => HCO.out.2 _ hmem2 c hc
          have hrl2 := HWL.out.2 _ hmem2
          have hyes := mP_yes (row := row) (r := r) (lk := lk) (rk := rk) (j := j)
          have hno := mP_no (row := row) (r := r) (lk := lk) (rk := rk) (j := j)
          have hay := fun hk => accP_yes (kind := kind) (acc := acc) (row := row) (r := r) (lk := lk) (rk := rk) (j := j) hk
          have han := accP_no (kind := kind) (acc := acc) (row := row) (r := r) (lk := lk) (rk := rk) (j := j)
          have hov := fun hk => accP_over (kind := kind) (acc := acc) (row := row) (r := r) (lk := lk) (rk := rk) (j := j + 1) (j' := j) hk
          have hal := accP_len kind acc row r lk rk j
          have hrc : wr.cell? (adr.add j) = some (.slice Aj (r.getD j []).length cj0) := cell_later_ hrc0 (HX.out.mono (Nat.le_refl _))
          have hlc : wr.cell? (adl.add i) = some (.slice Al row.length cl) := cell_later_ HY.out HX.out
          obtain ⟨rj, hrj⟩ : ∃ x, x = r.getD j [] := ⟨_, rfl⟩
          rw [← hrj] at hrc hrk' hrC hcolr hyes hno hay han hrl2
          have HMC := Aside0.mk (Match_ Al cl row Aj cj0 rj A2 c2 lk A3 c3 rk wr.drew (Kd.C_drew (Kd.C_below HCK.out.2 HX.out)) (Kd.C_drew (Kd.C_below hrC HX.out)) (Kd.C_drew (Kd.C_below HL.out.2.2.1 HX.out)) (Kd.C_drew (Kd.C_below HL.out.2.2.2 HX.out)) HLN.out.2.2.1 (by have := HLN.out.2.2.2; omega) HCOL.out hcolr)
          obtain ⟨b, hb⟩ : ∃ b, b = mB (ofL row lk) (ofL rj rk) := ⟨_, rfl⟩
          rw [← hb] at HMC hyes hno hay han
          have HMY : Aside0 (b = true → mP row r lk rk (j + 1) = mP row r lk rk j ++ [(j : Int)]) := ⟨hyes⟩
          have HMN : Aside0 (b = false → mP row r lk rk (j + 1) = mP row r lk rk j) := ⟨hno⟩
          have HAY : Aside0 (kind ≤ 2 → b = true → accP kind acc row r lk rk (j + 1) = accP kind acc row r lk rk j ++ [row ++ rj]) := ⟨hay⟩
          have HAN : Aside0 (b = false → accP kind acc row r lk rk (j + 1) = accP kind acc row r lk rk j) := ⟨han⟩
          have HOV : Aside0 (¬ kind ≤ 2 → accP kind acc row r lk rk (j + 1) = accP kind acc row r lk rk j) := ⟨hov⟩
          have HI2 : Aside0 ((j : Int) + 1 = ((j + 1 : Nat) : Int) ∧ (N : Int) + 1 = ((N + 1 : Nat) : Int)) := ⟨by omega, by omega⟩
          have HRJ := Aside0.mk (And.intro hrk' (And.intro hrC hrl2))
          have HAL : Aside0 ((accP kind acc row r lk rk j).length ≤ 1000000) := ⟨by have := HACL.out; have := HLN.out; omega⟩
          have ti : i < l.length := by have := HI.out; omega
          have HRC0 := Aside0.mk hrc0
          rw [← hrj] at HRC0
          clear hmem2 hcolr hyes hno hay han hov hrk' hrC hrl2 hrj hb hal hrc0
          go_wp2_with fail
          refine rrows9 (by kernel_rfl) (fun _ _ T _ _ h => by cases T <;> exact h) hlc hrc cij ti HMC ?_
          intro x31 x32 x33 x34 x35 x36 x37 x38 x39 x40 w8 hb8
          have HD8 := Aside0.mk hb8
          clear hb8 hlc hrc HMC
          have HO8 := Aside0.mk (Kd.R_below HO.out HD8.out)
          have HV8 := Aside0.mk (HBV.out.trans (HD8.out.mono (below_size HX.out)))
          have HX8 := Aside0.mk (HX.out.trans (HD8.out.mono (below_size HX.out)))
          cases b with
          | true =>
            have HN1 : Aside0 (N + 1 = (mP row r lk rk (j + 1)).length) := ⟨by rw [HMY.out (by trivial), List.length_append, ← HNN.out]; rfl⟩
            by_cases hk2 : kind ≤ 2
            · have tk : decide (kind ≤ 2) = true := decide_eq_true hk2
              have HE := Aside0.mk (HAY.out (by omega) (by trivial))
              have hlc : w8.cell? (adl.add i) = some (.slice Al row.length cl) := cell_later_ HY.out HX8.out
              have hrc : w8.cell? (adr.add j) = some (.slice Aj rj.length cj0) := cell_later_ HRC0.out HX8.out
              have HC1 : Aside0 (∀ V, Below w8.heap.size w8 V → Kd.C k43 V Al row.length row) := ⟨fun V hV => Kd.C_below HCK.out.2 (HX8.out.trans (hV.mono (below_size HX8.out)))⟩
              have HC2 : Aside0 (∀ V, Below w8.heap.size w8 V → Kd.C k43 V Aj rj.length rj) := ⟨fun V hV => Kd.C_below HRJ.out.2.1 (HX8.out.trans (hV.mono (below_size HX8.out)))⟩
              have HLL := Aside0.mk (And.intro HRL.out (And.intro HRJ.out.2.2 HAL.out))
              have HBB := Aside0.mk (below_size HX8.out)
              clear hk2
              go_wp2_with fail
              refine rrows12 (by kernel_rfl) (fun _ _ T _ _ h => by cases T <;> exact h) hlc hrc cij ti HC1 HC2 HLL HBB HO8 ?_
              intro x46 x47 x48 x49 x50 x51 x52 x53 x54 x55 x56 x57 x58 v9 w9 ho9 hb9
              have HO9 := Aside0.mk ho9
              have HV9 := Aside0.mk (HV8.out.trans hb9)
              clear ho9 hb9 hlc hrc cij ti HC1 HC2 HLL HBB
              go_wp2_with fail
              go_roundg k2
              case measure => omega
              case rel => exact ⟨j + 1, N + 1, by first | (rw [wj, HI2.out.1]; done) | (rw [HI2.out.1]; done), by first | (rw [wN, HI2.out.2]; done) | (rw [HI2.out.2]; done), ⟨by have := HJ.out; omega⟩, HN1, ⟨by rw [HE.out]; exact HO9.out⟩, HV9⟩
            · have tk : decide (kind ≤ 2) = false := decide_eq_false hk2
              have HE := Aside0.mk (HOV.out (by omega))
              clear hk2 cij ti
              go_wp2_with fail
              go_roundg k2
              case measure => omega
              case rel => exact ⟨j + 1, N + 1, by first | (rw [wj, HI2.out.1]; done) | (rw [HI2.out.1]; done), by first | (rw [wN, HI2.out.2]; done) | (rw [HI2.out.2]; done), ⟨by have := HJ.out; omega⟩, HN1, ⟨by rw [HE.out]; exact HO8.out⟩, HV8⟩
          | false =>
            clear cij ti
            go_wp2_with fail
            go_roundg k2
            case measure => omega
            case rel => exact ⟨j + 1, N, by first | (rw [wj, HI2.out.1]; done) | (rw [HI2.out.1]; done), rfl, ⟨by have := HJ.out; omega⟩, ⟨by rw [HMN.out (by trivial)]; exact HNN.out⟩, ⟨by rw [HAN.out (by trivial)]; exact HO8.out⟩, HV8⟩
end Go.Proofs.Ytcbjkejboegmlaa.HW
