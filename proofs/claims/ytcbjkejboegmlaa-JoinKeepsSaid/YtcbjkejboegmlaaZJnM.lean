import Derived.Test.YtcbjkejboegmlaaZJnG
/- join.Matches. -/
set_option linter.unusedVariables false
set_option linter.unusedSimpArgs false
namespace Go.Proofs.Ytcbjkejboegmlaa.HW
open Go.RowKit Go.Proofs.Ytcbjkejboegmlaa.P Go.Proofs.Ytcbjkejboegmlaa.HP Go.Proofs.YtcbjkejboegmlaaW.PrintWords Go.Proofs.YtcbjkejboegmlaaW.PrintLast Go.Proofs.YtcbjkejboegmlaaW.PrintMore
attribute [local go_sem] max2_int min2_int max_two min_two max_three min_three max_four min_four
open Go.Maps Go.WideElems Go.MapKept Go.ChangeMaps Go.ChangeShapes
theorem cast_len (n : Nat) : ((List.range n).map (fun (i : Nat) => (i : Int))).length = n := by simp
theorem cast_succ (n : Nat) : (List.range (n + 1)).map (fun (i : Nat) => (i : Int)) = (List.range n).map (fun (i : Nat) => (i : Int)) ++ [(n : Int)] := by simp [List.range_succ]
theorem cast_mem {n : Nat} {c : Int} (h : c ∈ (List.range n).map (fun (i : Nat) => (i : Int))) : 0 ≤ c ∧ c < (n : Int) := by
  obtain ⟨i, hi, rfl⟩ := List.mem_map.1 h
  have := List.mem_range.1 hi
  omega
theorem keysOf_len (rows : List Key) (cols : List Int) : (keysOf rows cols).length = rows.length := by unfold keysOf; simp
theorem keysOf_mem {rows : List Key} {cols : List Int} {key : Key} (h : key ∈ keysOf rows cols) : key.length = cols.length := by
  obtain ⟨row, _, rfl⟩ := List.mem_map.1 h
  unfold ofL
  simp
theorem keysOf_size {rows : List Key} {cols : List Int} (hc : ∀ row ∈ rows, ∀ c ∈ cols, 0 ≤ c ∧ c < (row.length : Int)) (hs : ∀ row ∈ rows, ∀ x ∈ row, x.f1.size ≤ 1000000) : ∀ key ∈ keysOf rows cols, ∀ x ∈ key, x.f1.size ≤ 1000000 := by
  intro key h x hx
  obtain ⟨row, hr, rfl⟩ := List.mem_map.1 h
  obtain ⟨c, hcm, rfl⟩ := List.mem_map.1 hx
  obtain ⟨h0, h1⟩ := hc row hr c hcm
  obtain ⟨n, rfl⟩ := Int.eq_ofNat_of_zero_le h0
  exact hs row hr _ (mem_rd43 _ _ (by omega))
theorem wf64 {x : Int} (h : 0 ≤ x ∧ x ≤ 100000) : (Lit.int .i64 x).wf = true := by simp [Lit.wf, IntKind.min, IntKind.max, IntKind.signed, IntKind.bits]; omega
theorem below_alloc_lo {lo : Nat} {w w' : World} {o : Obj} (h : Below lo w w') (hl : lo ≤ w'.heap.size) : Below lo w (w'.alloc o) := h.trans ((below_alloc (Below.refl _ w') o).mono hl)
theorem own_app {w3 : World} {b : Nat} {v3 : Value} {G : List Int} {i : Int} (hG : (∀ z ∈ G, (Lit.int .i64 z).wf = true) ∧ (Lit.int .i64 i).wf = true) (h : Kd.R (Kd.int .i64) 3 w3 (b + 1) (fun _ => True) v3 (G ++ [i])) : w3.ownsInts (b + 1) 3 .i64 v3 (G ++ [i]) :=
  ⟨Kd.own_of_R h, fun z hz => by
    rcases List.mem_append.1 hz with hz | hz
    · exact hG.1 z hz
    · rw [List.mem_singleton.1 hz]; exact hG.2⟩
theorem infoIS : (Try.prog.info? 23).map (fun i => (i.zero, i.size, i.bytes)) = some (some (.slice none 0 0), 1, 24) := by kernel_rfl
set_option maxHeartbeats 8000000 in
set_option maxRecDepth 100000 in
theorem Matches_ (A0 : Option Addr) (c0 : Nat) (l : List Key) (A1 : Option Addr) (c1 : Nat) (r : List Key) (A2 : Option Addr) (c2 : Nat) (lk : List Int) (A3 : Option Addr) (c3 : Nat) (rk : List Int) (w : World)
    (hl : Kd.C (Kd.slice 43 k43) w A0 l.length l) (hcl : l.length ≤ c0) (hr : Kd.C (Kd.slice 43 k43) w A1 r.length r) (hcr : r.length ≤ c1) (hlk : Kd.C (Kd.int .i64) w A2 lk.length lk) (hclk : lk.length ≤ c2) (hrk : Kd.C (Kd.int .i64) w A3 rk.length rk) (hcrk : rk.length ≤ c3)
    (hln : l.length ≤ 400 ∧ r.length ≤ 400 ∧ lk.length = rk.length ∧ lk.length ≤ 100) (hcL : ∀ row ∈ l, ∀ c ∈ lk, 0 ≤ c ∧ c < (row.length : Int)) (hcR : ∀ row ∈ r, ∀ c ∈ rk, 0 ≤ c ∧ c < (row.length : Int)) (hsL : ∀ row ∈ l, ∀ x ∈ row, x.f1.size ≤ 1000000) (hsR : ∀ row ∈ r, ∀ x ∈ row, x.f1.size ≤ 1000000) :
    Calls Try.prog 15 #[.slice A0 l.length c0, .slice A1 r.length c1, .slice A2 lk.length c2, .slice A3 rk.length c3] w fun e w' => ∃ v : Value, e = .returned v ∧ Kd.R (Kd.slice 3 (Kd.int .i64)) 23 w' w.heap.size (fun _ => True) v (matchL (keysOf l lk) (keysOf r rk)) ∧ Below w.heap.size w w' := by
  obtain ⟨kr, hkr⟩ := (keys_f r rk hcR (by omega) (by omega)).rounds
  obtain ⟨kl, hkl⟩ := (keys_f l lk hcL (by omega) (by omega)).rounds
  have hsz1 := keysOf_size hcL hsL
  have hsz2 := keysOf_size hcR hsR
  have hkl1 : ∀ key ∈ keysOf l lk, key.length = lk.length := fun key h => keysOf_mem h
  have hkl2 : ∀ key ∈ keysOf r rk, key.length = lk.length := fun key h => (keysOf_mem h).trans hln.2.2.1.symm
  have hll := keysOf_len l lk
  have hlr := keysOf_len r rk
  obtain ⟨ls, hls⟩ : ∃ ls, ls = keysOf l lk := ⟨_, rfl⟩
  obtain ⟨rs, hrs⟩ : ∃ rs, rs = keysOf r rk := ⟨_, rfl⟩
  rw [← hls, ← hrs]
  rw [← hls] at hkl hsz1 hkl1 hll
  rw [← hrs] at hkr hsz2 hkl2 hlr
  have HKR := Aside0.mk hkr
  have HKL := Aside0.mk hkl
  have HSZ : Aside0 (∀ key ∈ rs ++ ls, ∀ x ∈ key, x.f1.size ≤ 1000000) := ⟨fun key hk => by rcases List.mem_append.1 hk with h | h; exact hsz2 key h; exact hsz1 key h⟩
  have HKN : Aside0 (∀ key ∈ rs ++ ls, key.length = lk.length) := ⟨fun key hk => by rcases List.mem_append.1 hk with h | h; exact hkl2 key h; exact hkl1 key h⟩
  have HLN : Aside0 (ls.length = l.length ∧ rs.length = r.length ∧ ls.length ≤ 400 ∧ rs.length ≤ 400 ∧ lk.length ≤ 100) := ⟨by omega⟩
  have HL := Aside0.mk hl
  have HR := Aside0.mk hr
  have HLK := Aside0.mk hlk
  have HRK := Aside0.mk hrk
  have HC := Aside0.mk (And.intro hcl (And.intro hcr (And.intro hclk hcrk)))
  have HB := Aside0.mk (Below.refl w.heap.size w)
  clear hl hcl hr hcr hlk hclk hrk hcrk hln hcL hcR hsL hsR hkr hkl hsz1 hsz2 hkl1 hkl2 hll hlr hls hrs
  go_enter Try.func15, Try.ntmps15
  go_wp2_with fail
  refine (join_keys.calls kr A1 c1 r A3 c3 rk rs _ HR.out HC.out.2.1 HRK.out HC.out.2.2.2 HKR.out).mono ?_
  rintro e w1 ⟨v20, rfl, ho20, hb1⟩
  have HO1 := Aside0.mk (Kd.S_R ho20)
  have HB1 := Aside0.mk (below_step HB.out hb1)
  have HS1 := Aside0.mk (below_size hb1)
  clear ho20 hb1 HB HKR
  go_wp2_with fail
  refine (join_keys.calls kl A0 c0 l A2 c2 lk ls _ (Kd.C_below HL.out HB1.out) HC.out.1 (Kd.C_below HLK.out HB1.out) HC.out.2.2.1 HKL.out).mono ?_
  rintro e w2 ⟨v23, rfl, ho23, hb2⟩
  obtain ⟨A23, c23, e23, hl23, hrd⟩ := OwnRow.reads (Kd.S_R ho23).2
  subst e23
  have HRD := Aside0.mk hrd
  have HO2 := Aside0.mk (Kd.R_below HO1.out hb2)
  have HB2 := Aside0.mk (below_step HB1.out hb2)
  clear ho23 hb2 hl23 hrd HKL HB1
  go_wp2_with (first | ((with_reducible refine gate_builtin (b := .append) (xs := #[.tmp 20, .tmp 23]) rfl ?_); at_builtin; refine Kd.R_append_rows (Kd.slice 43 k43) (Rr := (Kd.slice 43 k43).M w2 w1.heap.size (fun k => True ∧ some k ≠ (Value.slice A23 ls.length c23).ownBlock)) (w0 := w) w.heap.size rfl (.tmp 20) (.tmp 23) 22 38 (.slice none 0 0) 24 rfl Try.underlying22 info38 rfl (by decide) (by omega) v20 rs ls A23 ls.length c23 (fun _ => True) (fun k => w1.heap.size ≤ k) rfl rfl ?aO ?aR ?aK ?aP ?aF ?aB ?aS ?aL ?_; (case aO => exact HO2.out); (case aR => exact HRD.out); (case aK => exact (fun x cs h => (Kd.slice 43 k43).M_lower HS1.out ((Kd.slice 43 k43).M_mono (fun k hk => hk.2.1) ((Kd.slice 43 k43).M_bound h)))); (case aP => exact (fun k hk => ⟨trivial, fun e => by have := Kd.R_lt HO1.out k e.symm; omega⟩)); (case aF => exact (fun _ _ => trivial)); (case aB => exact HB2.out); (case aS => exact below_size HB2.out); (case aL => have := HLN.out; omega); intro v24 wA ho hb hg hat; have HOA := Aside0.mk ho; have HBA := Aside0.mk hb; clear ho hb hg hat))
  obtain ⟨AA, cA, eA, hlA, hCA⟩ := Kd.R_reads HOA.out
  subst eA
  have hlal : (rs ++ ls).length = rs.length + ls.length := List.length_append
  obtain ⟨al, hal⟩ : ∃ al, al = rs ++ ls := ⟨_, rfl⟩
  rw [← hal] at hlA hCA hlal HSZ HKN ⊢
  have HAL := Aside0.mk hal
  have HLA := Aside0.mk hlal
  have HCA := Aside0.mk hCA
  have HCL := Aside0.mk hlA
  have HHA : Aside0 (∀ W : World, Below wA.heap.size wA W → Below w.heap.size w W) := ⟨fun W hW => HBA.out.trans (hW.mono (below_size HBA.out))⟩
  have HBC := Aside0.mk (Below.refl wA.heap.size wA)
  clear hlA hCA hal hlal HOA HRD HO1 HO2 HB2 HS1 HBA HL HR
  go_loopg [10, 27] (lk.length : Nat) (fun kq v10 v27 w' => ∃ i : Nat, v27 = .int .i64 (i : Int) ∧ Aside0 (i + kq = lk.length) ∧ Aside0 (Kd.R (Kd.int .i64) 3 w' wA.heap.size (fun _ => True) v10 ((List.range i).map (fun (i : Nat) => (i : Int)))) ∧ Aside0 (Below wA.heap.size wA w'))
  case atStart => exact ⟨0, rfl, ⟨by omega⟩, ⟨Kd.R_nil _ _ _ _ _⟩, HBC⟩
  case round =>
    clear HBC
    obtain ⟨i, rfl, HI, HOC, HBC⟩ := hrel
    obtain ⟨vC, hvC⟩ : ∃ v, v = u10 := ⟨_, rfl⟩
    rw [← hvC] at HOC ⊢
    clear hvC
    cases gk with
    | succ k1 =>
      have c_ : (i : Int) < (lk.length : Int) := by have := HI.out; omega
      have cn : i < lk.length := by omega
      have cb : decide ((i : Int) < (lk.length : Int)) = true := decide_eq_true c_
      have cb2 : decide (i < lk.length) = true := decide_eq_true cn
      have HI1 : Aside0 (wrap64 ((i : Int) + 1) = ((i + 1 : Nat) : Int)) := ⟨by unfold wrap64; have := HLN.out; omega⟩
      clear c_
      go_wp2_with (first | ((with_reducible refine gate_builtin (b := .append) (xs := #[.tmp 30, .tmp 32]) rfl ?_); at_builtin; refine Kd.R_append (Kd.int .i64) (w0 := wA) wA.heap.size rfl (.tmp 30) (.tmp 32) 23 3 (.int .i64 0) 8 rfl Try.underlying23 infoI rfl (by decide) (by omega) vC ((List.range i).map (fun (i : Nat) => (i : Int))) (i : Int) [.int .i64 (i : Int)] (fun _ => True) (fun _ => False) rfl rfl ?aP (fun _ hk => hk.elim) ?aF ?aO ?aB ?aS ?aL ?_; (case aP => rfl); (case aF => exact (fun _ _ => trivial)); (case aO => exact HOC.out); (case aB => exact HBC.out); (case aS => exact HBC.out.size); (case aL => have := HLN.out; have := HI.out; rw [cast_len]; omega); intro v3 w3 ho hb hg hat; rw [← cast_succ] at ho; have HO3 := Aside0.mk ho; have HB3 := Aside0.mk hb; clear ho hb hg hat))
      go_roundg k1
      case measure => omega
      case rel => exact ⟨i + 1, by first | rfl | (rw [HI1.out]), ⟨by have := HI.out; omega⟩, HO3, HB3⟩
    | zero =>
      have c_ : ¬ (i : Int) < (lk.length : Int) := by have := HI.out; omega
      have cb : decide ((i : Int) < (lk.length : Int)) = false := decide_eq_false c_
      have cb2 : decide (i < lk.length) = false := decide_eq_false (by omega)
      clear c_
      obtain ⟨AC, cC, eC, hlC, hCC⟩ := Kd.R_reads HOC.out
      subst eC
      obtain ⟨cols, hcols⟩ : ∃ cols, cols = (List.range i).map (fun (i : Nat) => (i : Int)) := ⟨_, rfl⟩
      rw [← hcols] at hlC hCC ⊢
      have hil : i = lk.length := by have := HI.out; omega
      have hcl : cols.length = lk.length := by rw [hcols, cast_len]; exact hil
      have hself : al.map (fun row => ofL row cols) = al := by
        rw [List.map_congr_left (g := id) (fun row hrow => by rw [hcols, hil, ← HKN.out row hrow]; exact ofL_self row), List.map_id]
      have HNU := Aside0.mk (Numbers_ AA cA al AC cC cols wr (Kd.C_below HCA.out HBC.out) hCC hlC (by have := HLA.out; have := HLN.out; omega) (by have := HLN.out; omega) (fun row hrow c hc => by rw [hcols] at hc; have h9 := cast_mem hc; rw [HKN.out row hrow]; omega) HSZ.out)
      rw [hself] at HNU
      clear hlC hCC hcols hcl hself hil HOC HI
      go_wp2_with fail
      refine HNU.out.mono ?_
      rintro e w5 ⟨vN, nums, rfl, hoN, hnum, hb5⟩
      obtain ⟨AN, cN, eN, hlN, hCN⟩ := Kd.R_reads hoN
      subst eN
      have HNUM := Aside0.mk hnum
      have HNR := Aside0.mk (hnum.range (by have := HLA.out; have := HLN.out; omega))
      have HCN := Aside0.mk hCN
      have HB5 := Aside0.mk (HBC.out.trans (hb5.mono (below_size HBC.out)))
      have HHB : Aside0 (∀ W : World, Below w5.heap.size w5 W → Below wA.heap.size wA W) := ⟨fun W hW => HB5.out.trans (hW.mono (below_size HB5.out))⟩
      have hmm := @run_makeMap Try.prog
      obtain ⟨b, hb⟩ : ∃ b, b = w5.heap.size := ⟨_, rfl⟩
      have HGM := Grp.made w5
      rw [← hb] at HGM
      have HGM : Aside0 (Grp (w5.alloc (.map #[] 0)) b 0 (grpI nums rs 0)) := ⟨HGM⟩
      have HBE := Aside0.mk hb
      clear hoN hnum hlN hCN hb5 HNU HBC HB5 hb
      go_wp2_with fail
      try rw [← HBE.out]
      have HB0 : Aside0 (Below w5.heap.size w5 (w5.alloc (.map #[] 0))) := ⟨below_alloc (Below.refl _ _) _⟩
      clear hmm
      go_loopg [41] (r.length : Nat) (fun kq v41 w' => ∃ (i n : Nat), v41 = .int .i64 (i : Int) ∧ Aside0 (i + kq = r.length) ∧ Aside0 (n ≤ i) ∧ Aside0 (Grp w' b n (grpI nums rs i)) ∧ Aside0 (Below w5.heap.size w5 w'))
      case atStart => exact ⟨0, 0, rfl, ⟨by omega⟩, ⟨Nat.le_refl _⟩, HGM, HB0⟩
      case round =>
        clear HGM HB0
        obtain ⟨i, n, rfl, HI, HNI, HG, HB⟩ := hrel
        cases gk with
        | succ k1 =>
          have c_ : (i : Int) < (r.length : Int) := by have := HI.out; omega
          have cn : i < r.length := by omega
          have cb : decide ((i : Int) < (r.length : Int)) = true := decide_eq_true c_
          have cb2 : decide (i < r.length) = true := decide_eq_true cn
          have HI1 : Aside0 (wrap64 ((i : Int) + 1) = ((i + 1 : Nat) : Int)) := ⟨by unfold wrap64; have := HLN.out; omega⟩
          have hila : i < al.length := by have := HLA.out; have := HLN.out; omega
          have p0 : ((0 : Int) ≤ (i : Int)) = True := eq_true (by omega)
          have q0 : ((i : Int) < (al.length : Int)) = True := eq_true (by omega)
          have q0n : (i < al.length) = True := eq_true hila
          obtain ⟨adA, Ak, ck, eA, hy, hck, hCk⟩ := at_L3 (Kd.C_below HCA.out (HHB.out _ HB.out)) (i : Int) (by omega) (by omega)
          subst eA
          rw [rdL_get, Int.toNat_natCast] at hy
          rw [rdL_get] at hck hCk
          have hkr : al.getD i [] = rs.getD i [] := by rw [HAL.out]; simp only [List.getD_eq_getElem?_getD]; rw [List.getElem?_append_left (by have := HLN.out; omega)]
          obtain ⟨key, hkey⟩ : ∃ key, key = al.getD i [] := ⟨_, rfl⟩
          rw [← hkey] at hy hck hCk hkr
          obtain ⟨gb, hgb⟩ : ∃ gb, gb = gonek key := ⟨_, rfl⟩
          have HKR := Aside0.mk hkr
          have HGB := Aside0.mk hgb
          have HCk := Aside0.mk hCk
          clear c_ hila hck hCk hkr hkey hgb
          go_wp2_with fail
          refine (Gone_ Ak ck key _ HCk.out).mono ?_
          rintro e w6 ⟨rfl, hb6⟩
          rw [show (key.any (fun x : S43 => x.f0)) = gb from HGB.out.symm]
          have HG6 := Aside0.mk (HG.out.below hb6)
          have HB6 := Aside0.mk (HB.out.trans (hb6.mono (below_size HB.out)))
          clear hb6 HG HB hy
          cases gb with
          | true =>
            go_wp2_with fail
            go_roundg k1
            case measure => omega
            case rel => exact ⟨i + 1, n, by first | rfl | (rw [HI1.out]), ⟨by have := HI.out; omega⟩, ⟨by have := HNI.out; omega⟩, ⟨by rw [grpI_gone (by rw [← HKR.out]; exact HGB.out.symm)]; exact HG6.out⟩, HB6⟩
          | false =>
            obtain ⟨u, hu⟩ : ∃ U, U = w6 := ⟨_, rfl⟩
            rw [← hu] at HG6 HB6 ⊢
            have hGd : Grp u.drew b n (grpI nums rs i) := HG6.out.below (below_drew1 (Below.refl _ _))
            have hil2 : i < al.length := by have := HLA.out; have := HLN.out; omega
            have hnl := HNR.out.1
            have hrg := HNR.out.2 i hil2
            have hbe := HBE.out
            have hGb1 := hGd.1
            obtain ⟨adN, eN, hxN⟩ := Kd.at_int HCN.out (i : Int) (by omega) (by omega)
            subst eN
            rw [rd_get, Int.toNat_natCast] at hxN
            have hblk := World.block_lt_of_cell? w5 _ hxN
            obtain ⟨x, hx⟩ : ∃ x, x = nums.getD i 0 := ⟨_, rfl⟩
            rw [← hx] at hxN hrg
            obtain ⟨v, hlk, hoi, hgl, hbk⟩ := hGd.look x (wf64 hrg) (by have := HNI.out; have := HLN.out; omega)
            obtain ⟨G, hG⟩ : ∃ G, G = grpI nums rs i x := ⟨_, rfl⟩
            rw [← hG] at hoi hgl hbk
            have HCX : Aside0 (∀ W : World, Below (b + 1) u.drew W → W.cell? (adN.add i) = some (.int .i64 x)) := ⟨fun W hW => by
              rw [hW.cell (by omega)]
              exact (HB6.out.cell hblk).trans hxN⟩
            have HLK : Aside0 (∀ W : World, Below (b + 1) u.drew W → (Instr.lookup 51 (.map (some b)) (.int .i64 x) false).run Try.prog W = .ok v W) := ⟨fun W hW => hlk W (hW.block b (by omega))⟩
            have HBU : Aside0 (b + 1 ≤ u.drew.heap.size) := ⟨hGb1⟩
            have HOG : Aside0 (Kd.R (Kd.int .i64) 3 u.drew (b + 1) (fun _ => True) v G) := ⟨Kd.R_of_own hoi.1 (fun _ _ => trivial)⟩
            have HGL := Aside0.mk hgl
            have HBK := Aside0.mk hbk
            have HWF := Aside0.mk (And.intro hoi.2 (wf64 (x := (i : Int)) (by have := HLN.out; have := HI.out; omega)))
            have HGE := Aside0.mk hG
            have HXE := Aside0.mk hx
            have p1 : ((0 : Int) ≤ (i : Int)) = True := eq_true (by omega)
            have q1 : ((i : Int) < (nums.length : Int)) = True := eq_true (by omega)
            have q1n : (i < nums.length) = True := eq_true (by omega)
            clear hu hGd hil2 hnl hrg hbe hGb1 hxN hblk hx hlk hoi hgl hbk hG
            go_wp2_with fail
            refine start_ (n := 15) (S := fun w' => w'.cell? (adN.add i) = some (.int .i64 x) ∧ (Instr.lookup 51 (.map (some b)) (.int .i64 x) false).run Try.prog w' = .ok v w') (ds := [14]) #[false, false, false, false, false, false, false, false, false, false, false, false, false, false, false] (by kernel_rfl) rfl rfl ⟨(HCX.out _ (Below.refl _ _)), (HLK.out _ (Below.refl _ _))⟩ (fun hHeld => ?_)
            refine pure_ (i := 0) (N := some 50) (v := ?_) (a' := ?_) #[true, false, false, false, false, false, false, false, false, false, false, false, false, false, false] rfl rfl (by kernel_rfl) (fun _ _ _ h => h) (Or.inl ⟨by rfl, ?_⟩) ?_ ?_
            rotate_left
            · intro w'
              go_simp
              with_reducible rfl
            rotate_left
            · simp only [Act.put, List.setIfInBounds_toArray, List.set_cons_zero, List.set_cons_succ, i64_w, i32_w]
              rfl
            refine pure_ (i := 1) (N := some 51) (v := ?_) (a' := ?_) #[true, true, false, false, false, false, false, false, false, false, false, false, false, false, false] rfl rfl (by kernel_rfl) (fun _ _ _ h => h) (Or.inl ⟨by rfl, ?_⟩) ?_ ?_
            rotate_left
            · intro w'
              go_simp
              with_reducible rfl
            rotate_left
            · simp only [Act.put, List.setIfInBounds_toArray, List.set_cons_zero, List.set_cons_succ, i64_w, i32_w]
              rfl
            refine pure_ (i := 2) (N := some 52) (v := ?_) (a' := ?_) #[true, true, true, false, false, false, false, false, false, false, false, false, false, false, false] rfl rfl (by kernel_rfl) (fun _ _ _ h => h) (Or.inl ⟨by rfl, ?_⟩) ?_ ?_
            rotate_left
            · intro w'
              go_simp
              with_reducible rfl
            rotate_left
            · simp only [Act.put, List.setIfInBounds_toArray, List.set_cons_zero, List.set_cons_succ, i64_w, i32_w]
              rfl
            refine pure_ (i := 3) (N := some 53) (v := ?_) (a' := ?_) #[true, true, true, true, false, false, false, false, false, false, false, false, false, false, false] rfl rfl (by kernel_rfl) (fun _ _ _ h => h) (Or.inl ⟨by rfl, ?_⟩) ?_ ?_
            rotate_left
            · intro w'
              go_simp
              with_reducible rfl
            rotate_left
            · simp only [Act.put, List.setIfInBounds_toArray, List.set_cons_zero, List.set_cons_succ, i64_w, i32_w]
              rfl
            refine pure_ (i := 5) (N := some 55) (v := ?_) (a' := ?_) #[true, true, true, true, false, true, false, false, false, false, false, false, false, false, false] rfl rfl (by kernel_rfl) (fun _ _ _ h => h) (Or.inl ⟨by rfl, ?_⟩) ?_ ?_
            rotate_left
            · intro w'
              go_simp
              with_reducible rfl
            rotate_left
            · simp only [Act.put, List.setIfInBounds_toArray, List.set_cons_zero, List.set_cons_succ, i64_w, i32_w]
              rfl
            refine pure_ (i := 6) (N := some 56) (v := ?_) (a' := ?_) #[true, true, true, true, false, true, true, false, false, false, false, false, false, false, false] rfl rfl (by kernel_rfl) (fun _ _ _ h => h) (Or.inl ⟨by rfl, ?_⟩) ?_ ?_
            rotate_left
            · intro w'
              go_simp
              with_reducible rfl
            rotate_left
            · simp only [Act.put, List.setIfInBounds_toArray, List.set_cons_zero, List.set_cons_succ, i64_w, i32_w]
              rfl
            refine pure_ (i := 7) (N := some 57) (v := ?_) (a' := ?_) #[true, true, true, true, false, true, true, true, false, false, false, false, false, false, false] rfl rfl (by kernel_rfl) (fun _ _ _ h => h) (Or.inl ⟨by rfl, ?_⟩) ?_ ?_
            rotate_left
            · intro w'
              go_simp
              with_reducible rfl
            rotate_left
            · simp only [Act.put, List.setIfInBounds_toArray, List.set_cons_zero, List.set_cons_succ, i64_w, i32_w]
              rfl
            refine pure_ (i := 8) (N := some 58) (v := ?_) (a' := ?_) #[true, true, true, true, false, true, true, true, true, false, false, false, false, false, false] rfl rfl (by kernel_rfl) (fun _ _ _ h => h) (Or.inl ⟨by rfl, ?_⟩) ?_ ?_
            rotate_left
            · intro w'
              go_simp
              with_reducible rfl
            rotate_left
            · simp only [Act.put, List.setIfInBounds_toArray, List.set_cons_zero, List.set_cons_succ, i64_w, i32_w]
              rfl
            refine pure_ (i := 11) (N := some 61) (v := ?_) (a' := ?_) #[true, true, true, true, false, true, true, true, true, false, false, true, false, false, false] rfl rfl (by kernel_rfl) (fun _ _ _ h => h) (Or.inl ⟨by rfl, ?_⟩) ?_ ?_
            rotate_left
            · intro w'
              go_simp
              with_reducible rfl
            rotate_left
            · simp only [Act.put, List.setIfInBounds_toArray, List.set_cons_zero, List.set_cons_succ, i64_w, i32_w]
              rfl
            refine take_ (i := 4) (N := some 54) (v := ?_) (a' := ?_) #[true, true, true, true, true, true, true, true, true, false, false, true, false, false, false] rfl rfl (by kernel_rfl) (fun _ _ _ h => h) (Or.inl ⟨by rfl, ?_⟩) hHeld ?_ ?_
            rotate_left
            · rintro w' ⟨s0, s1⟩
              go_simp
              with_reducible rfl
            rotate_left
            · simp only [Act.put, List.setIfInBounds_toArray, List.set_cons_zero, List.set_cons_succ, i64_w, i32_w]
              rfl
            refine take_ (i := 9) (N := some 59) (v := ?_) (a' := ?_) #[true, true, true, true, true, true, true, true, true, true, false, true, false, false, false] rfl rfl (by kernel_rfl) (fun _ _ _ h => h) (Or.inl ⟨by rfl, ?_⟩) hHeld ?_ ?_
            rotate_left
            · rintro w' ⟨s0, s1⟩
              go_simp
              with_reducible rfl
            rotate_left
            · simp only [Act.put, List.setIfInBounds_toArray, List.set_cons_zero, List.set_cons_succ, i64_w, i32_w]
              rfl
            refine take_ (i := 10) (N := some 60) (v := ?_) (a' := ?_) #[true, true, true, true, true, true, true, true, true, true, true, true, false, false, false] rfl rfl (by kernel_rfl) (fun _ _ _ h => h) (Or.inl ⟨by rfl, ?_⟩) hHeld ?_ ?_
            rotate_left
            · rintro w' ⟨s0, s1⟩
              go_simp
              with_reducible rfl
            rotate_left
            · simp only [Act.put, List.setIfInBounds_toArray, List.set_cons_zero, List.set_cons_succ, i64_w, i32_w]
              rfl
            refine one_ (i := 12) (N := some 62) #[true, true, true, true, true, true, true, true, true, true, true, true, true, false, false] rfl rfl (by kernel_rfl) (by decide) (fun K hK => ?_)
            refine value_ (w1 := ?_) (v := ?_) (by rfl) rfl ?_ ?_
            rotate_left 2
            · go_simp
              constructor
              · rfl
              · rfl
            refine hK.out _ _ ⟨(HCX.out _ (below_alloc_lo (Below.refl _ _) HBU.out)), (HLK.out _ (below_alloc_lo (Below.refl _ _) HBU.out))⟩ (fun hHeld => ?_)
            clear hK K
            refine norm_ (a' := ?_) ?_ ?_
            rotate_left
            · show Act.put _ (some 62) _ = _
              simp only [Act.put, List.setIfInBounds_toArray, List.set_cons_zero, List.set_cons_succ, i64_w, i32_w]
              rfl
            refine one_ (i := 13) (N := some 63) #[true, true, true, true, true, true, true, true, true, true, true, true, true, true, false] rfl rfl (by kernel_rfl) (by decide) (fun K hK => ?_)
            refine Kd.R_append_step (Kd.int .i64) (w0 := u.drew) (b + 1) (by rfl) (.tmp 60) (.tmp 62) 23 3 (.int .i64 0) 8 (by rfl) Try.underlying23 infoI rfl (by decide) (by omega) v G (i : Int) [.int .i64 (i : Int)] (fun _ => True) (fun _ => False) rfl ?aX ?aP (fun _ hk => hk.elim) (fun _ _ => trivial) ?aO (Below.refl _ _) ?aS ?aL ?_
            case aX => rfl
            case aP => exact rfl
            case aO => exact HOG.out
            case aS => exact HBU.out
            case aL => have h9 := HGL.out; have h8 := HLN.out; have h7 := HNI.out; have h6 := HI.out; omega
            intro v3 w3 ho hb hg hat
            obtain ⟨w4, hr4, hg4, hgr4⟩ := HBK.out w3 v3 (i : Int) hg (own_app HWF.out ho) hat
            have HB3 := Aside0.mk hb
            have HG4 := Aside0.mk hg4
            have HGR4 := Aside0.mk hgr4
            clear ho hb hg hat hg4 hgr4
            refine hK.out _ _ ⟨(HCX.out _ HB3.out), (HLK.out _ HB3.out)⟩ (fun hHeld => ?_)
            clear hK K
            refine norm_ (a' := ?_) ?_ ?_
            rotate_left
            · show Act.put _ (some 63) _ = _
              simp only [Act.put, List.setIfInBounds_toArray, List.set_cons_zero, List.set_cons_succ, i64_w, i32_w]
              rfl
            refine last_ (i := 14) (N := none) #[true, true, true, true, true, true, true, true, true, true, true, true, true, true, true] rfl rfl (by kernel_rfl) (by decide) (fun K hK => ?_)
            refine skip_ (w1 := ?_) (by rfl) rfl ?_ ?_
            rotate_left
            · go_simp
              rfl
            refine hK.out _ _ ?_
            clear hK K
            refine done_ (by kernel_rfl) ?_
            go_wp2_with fail
            go_roundg k1
            case measure => omega
            case rel =>
              refine ⟨i + 1, n + 1, by first | rfl | (rw [HI1.out]), ⟨by have := HI.out; omega⟩, ⟨by have := HNI.out; omega⟩, ⟨?_⟩, ⟨?_⟩⟩
              · have h9 := HG4.out
                rw [HGE.out, HXE.out, grpI_there (by rw [← HKR.out]; exact HGB.out.symm)] at h9
                exact Grp.below h9 (by repeat (first | exact Below.refl _ _ | apply below_alloc | apply pw_below_drewN | apply below_drew1))
              · have h9 : Below w5.heap.size w5 w4 := ((below_drew HB6.out).trans (HB3.out.mono (by have := HBE.out; omega))).grown HGR4.out (by have h8 := HB3.out.size; have h7 := HBU.out; have := HBE.out; omega) (fun k hk => by injection hk with hk; have := HBE.out; omega)
                repeat (first | exact h9 | apply below_alloc | apply pw_below_drewN | apply below_drew1)
        | zero =>
          have c_ : ¬ (i : Int) < (r.length : Int) := by have := HI.out; omega
          have cb : decide ((i : Int) < (r.length : Int)) = false := decide_eq_false c_
          have cb2 : decide (i < r.length) = false := decide_eq_false (by omega)
          clear c_
          have hir : i = rs.length := by have := HI.out; have := HLN.out; omega
          rw [hir] at HG
          obtain ⟨wG, hwG⟩ : ∃ U, U = wr := ⟨_, rfl⟩
          rw [← hwG] at HG HB ⊢
          have HHG : Aside0 (∀ W : World, Below wG.heap.size wG W → Below w5.heap.size w5 W) := ⟨fun W hW => HB.out.trans (hW.mono (below_size HB.out))⟩
          have HN9 : Aside0 (n ≤ 400) := ⟨by have := HNI.out; have := HI.out; have := HLN.out; omega⟩
          have HGG := HG
          have HBG := Aside0.mk (Below.refl wG.heap.size wG)
          clear hwG hir HI HNI HB HG
          go_wp2_with fail
          go_loopg [15, 67] (l.length : Nat) (fun kq v15 v67 w' => ∃ j : Nat, v67 = .int .i64 (j : Int) ∧ Aside0 (j + kq = l.length) ∧ Aside0 (Kd.R (Kd.slice 3 (Kd.int .i64)) 23 w' wG.heap.size (fun _ => True) v15 ((ls.take j).map (mrow rs))) ∧ Aside0 (Below wG.heap.size wG w'))
          case atStart => exact ⟨0, rfl, ⟨by omega⟩, ⟨by rw [List.take_zero]; exact Kd.R_nil _ _ _ _ _⟩, HBG⟩
          case round =>
            clear HBG
            obtain ⟨j, rfl, HI, HO, HB⟩ := hrel
            obtain ⟨vO, hvO⟩ : ∃ v, v = u15 := ⟨_, rfl⟩
            rw [← hvO] at HO ⊢
            clear hvO
            cases gk with
            | zero =>
              have c_ : ¬ (j : Int) < (l.length : Int) := by have := HI.out; omega
              have cb : decide ((j : Int) < (l.length : Int)) = false := decide_eq_false c_
              have cb2 : decide (j < l.length) = false := decide_eq_false (by omega)
              have HJL : Aside0 (j = ls.length) := ⟨by have := HI.out; have := HLN.out; omega⟩
              clear c_
              go_wp2_with fail
              go_ret
              refine ⟨_, rfl, ?_, HHA.out _ (HHB.out _ (HHG.out _ HB.out))⟩
              have h9 := HO.out
              rw [HJL.out, List.take_length] at h9
              exact Kd.R_lower h9 (below_size (HHA.out _ (HHB.out _ (HHG.out _ (Below.refl _ _)))))
            | succ k1 =>
              have c_ : (j : Int) < (l.length : Int) := by have := HI.out; omega
              have cn : j < l.length := by omega
              have cb : decide ((j : Int) < (l.length : Int)) = true := decide_eq_true c_
              have cb2 : decide (j < l.length) = true := decide_eq_true cn
              have HI1 : Aside0 (wrap64 ((j : Int) + 1) = ((j + 1 : Nat) : Int)) := ⟨by unfold wrap64; have := HLN.out; omega⟩
              have hjls : j < ls.length := by have := HLN.out; omega
              obtain ⟨q, hq⟩ : ∃ q, q = r.length + j := ⟨_, rfl⟩
              have hqa : q < al.length := by have := HLA.out; have := HLN.out; omega
              have hwq : wrap64 ((r.length : Int) + (j : Int)) = (q : Int) := by rw [hq]; unfold wrap64; have := HLN.out; omega
              have p0 : ((0 : Int) ≤ (q : Int)) = True := eq_true (by omega)
              have q0 : ((q : Int) < (al.length : Int)) = True := eq_true (by omega)
              have q0n : (q < al.length) = True := eq_true hqa
              have hnl := HNR.out.1
              have hrg := HNR.out.2 q hqa
              have q1 : ((q : Int) < (nums.length : Int)) = True := eq_true (by omega)
              have q1n : (q < nums.length) = True := eq_true (by omega)
              obtain ⟨adA, Ak, ck, eA, hy, hck, hCk⟩ := at_L3 (Kd.C_below HCA.out (HHB.out _ (HHG.out _ HB.out))) (q : Int) (by omega) (by omega)
              subst eA
              rw [rdL_get, Int.toNat_natCast] at hy
              rw [rdL_get] at hck hCk
              have hkr : al.getD q [] = ls.getD j [] := by
                rw [HAL.out, hq]
                simp only [List.getD_eq_getElem?_getD]
                rw [List.getElem?_append_right (by have := HLN.out; omega)]
                congr 2
                have := HLN.out
                omega
              obtain ⟨key, hkey⟩ : ∃ key, key = al.getD q [] := ⟨_, rfl⟩
              rw [← hkey] at hy hck hCk hkr
              have HSTEP : Aside0 ((ls.take (j + 1)).map (mrow rs) = (ls.take j).map (mrow rs) ++ [mrow rs key]) := ⟨by
                rw [List.take_succ_eq_append_getElem hjls, List.map_append, hkr]
                simp [List.getD_eq_getElem?_getD, hjls]⟩
              have HMATCH : Aside0 (gonek key = false → grpI nums rs rs.length (nums.getD q 0) = mrow rs key) := ⟨fun hg => by
                have h9 := grpI_match (ls := ls) (j := j) (by have h8 := HNUM.out; rw [HAL.out] at h8; exact h8) hjls (by rw [← hkr]; exact hg)
                rw [hkr, hq, ← HLN.out.2.1]
                exact h9⟩
              obtain ⟨gb, hgb⟩ : ∃ gb, gb = gonek key := ⟨_, rfl⟩
              have HGB := Aside0.mk hgb
              have HCk := Aside0.mk hCk
              obtain ⟨x, hx⟩ : ∃ x, x = nums.getD q 0 := ⟨_, rfl⟩
              obtain ⟨adN, eN, hxN⟩ := Kd.at_int (Kd.C_below HCN.out (HHG.out _ HB.out)) (q : Int) (by omega) (by omega)
              subst eN
              rw [rd_get, Int.toNat_natCast, ← hx] at hxN
              rw [← hx] at HMATCH hrg
              have HXN := Aside0.mk hxN
              have HRG := Aside0.mk (wf64 hrg)
              clear c_ hjls hqa hnl hrg hck hCk hkr hkey hgb hx hxN hq
              go_wp2_with fail
              refine (Gone_ Ak ck key _ HCk.out).mono ?_
              rintro e w7 ⟨rfl, hb7⟩
              rw [show (key.any (fun x : S43 => x.f0)) = gb from HGB.out.symm]
              have HO7 := Aside0.mk (Kd.R_below HO.out hb7)
              have HB7 := Aside0.mk (HB.out.trans (hb7.mono (below_size HB.out)))
              have hxN := (hb7.cell (World.block_lt_of_cell? _ _ HXN.out)).trans HXN.out
              clear hb7 hy HO HB HXN
              cases gb with
              | true =>
                clear hxN
                have HMG : Aside0 (mrow rs key = []) := ⟨by unfold mrow; rw [if_pos HGB.out.symm]⟩
                go_wp2_with (first | ((with_reducible refine gate_builtin (b := .append) (xs := #[.tmp 89, .tmp 91]) rfl ?_); at_builtin; refine Kd.R_append (Kd.slice 3 (Kd.int .i64)) (w0 := wG) wG.heap.size rfl (.tmp 89) (.tmp 91) 35 23 (.slice none 0 0) 24 rfl Try.underlying35 infoIS rfl (by decide) (by omega) vO ((ls.take j).map (mrow rs)) (mrow rs key) [(.slice none 0 0)] (fun _ => True) (fun _ => False) rfl rfl ?aP ?aK ?aF ?aO ?aB ?aS ?aL ?_; (case aP => exact ⟨_, rfl, by rw [HMG.out]; exact Kd.R_nil _ _ _ _ _⟩); (case aK => exact (fun _ hk => hk.elim)); (case aF => exact (fun _ _ => trivial)); (case aO => exact HO7.out); (case aB => exact HB7.out); (case aS => exact below_size HB7.out); (case aL => have h9 := HLN.out; have h8 := HI.out; rw [List.length_map, List.length_take]; omega); intro v3 w3 ho hb hg hat; rw [← HSTEP.out] at ho; have HO3 := Aside0.mk ho; have HB3 := Aside0.mk hb; clear ho hb hg hat))
                go_roundg k1
                case measure => omega
                case rel => exact ⟨j + 1, by first | rfl | (rw [HI1.out]), ⟨by have := HI.out; omega⟩, HO3, HB3⟩
              | false =>
                have hGu : Grp w7 b n (grpI nums rs rs.length) := HGG.out.below HB7.out
                obtain ⟨v, hlk, hoi, hgl, _⟩ := hGu.look x HRG.out (by have := HN9.out; omega)
                have hlk := hlk w7 rfl
                rw [HMATCH.out HGB.out.symm] at hoi hgl
                obtain ⟨M, hM⟩ : ∃ M, M = mrow rs key := ⟨_, rfl⟩
                rw [← hM] at hoi hgl
                obtain ⟨Av, cv, ev, hlv, hCv⟩ := Kd.R_reads (Kd.R_of_own (enc := Value.int .i64) (h1 := fun _ => rfl) (ok := fun _ => True) hoi.1 (fun _ _ => trivial))
                subst ev
                have HCV := Aside0.mk hCv
                have HLV := Aside0.mk (And.intro hlv hgl)
                have HMM := Aside0.mk hM
                clear hGu hoi hgl hlv hCv hM
                go_wp2_with fail
                refine (CloneI Av cv M _ HCV.out HLV.out.1 (by have h8 := HLV.out.2; have h9 := HN9.out; omega)).mono ?_
                rintro e w8 ⟨v88, rfl, ho88, hb8⟩
                obtain ⟨A88, c88, e88⟩ := Kd.R_slice ho88
                subst e88
                have HO8 := Aside0.mk (Kd.R_below HO7.out hb8)
                have HAP : Aside0 (∀ k, some k = (Value.slice A88 M.length c88).ownBlock → some k ≠ vO.ownBlock) := ⟨fun k hk e => by have h8 := Kd.R_base ho88 k hk.symm; have h9 := Kd.R_lt HO7.out k e.symm; omega⟩
                have HO88 : Aside0 (Kd.R (Kd.int .i64) 3 w8 wG.heap.size (fun k => some k = (Value.slice A88 M.length c88).ownBlock) (Value.slice A88 M.length c88) (mrow rs key)) := ⟨by rw [← HMM.out]; exact Kd.R_lower (Kd.R_tight rfl ho88) (below_size HB7.out)⟩
                have HB8 := Aside0.mk (HB7.out.trans (hb8.mono (below_size HB7.out)))
                clear ho88 hb8 hxN hlk HO7 HB7
                go_wp2_with (first | ((with_reducible refine gate_builtin (b := .append) (xs := #[.tmp 89, .tmp 91]) rfl ?_); at_builtin; refine Kd.R_append (Kd.slice 3 (Kd.int .i64)) (w0 := wG) wG.heap.size rfl (.tmp 89) (.tmp 91) 35 23 (.slice none 0 0) 24 rfl Try.underlying35 infoIS rfl (by decide) (by omega) vO ((ls.take j).map (mrow rs)) (mrow rs key) [(Value.slice A88 M.length c88)] (fun _ => True) (fun k => some k = (Value.slice A88 M.length c88).ownBlock) rfl rfl ?aP ?aK ?aF ?aO ?aB ?aS ?aL ?_; (case aP => exact ⟨_, rfl, HO88.out⟩); (case aK => exact (fun k hk => ⟨trivial, HAP.out k hk⟩)); (case aF => exact (fun _ _ => trivial)); (case aO => exact HO8.out); (case aB => exact HB8.out); (case aS => exact below_size HB8.out); (case aL => have h9 := HLN.out; have h8 := HI.out; rw [List.length_map, List.length_take]; omega); intro v3 w3 ho hb hg hat; rw [← HSTEP.out] at ho; have HO3 := Aside0.mk ho; have HB3 := Aside0.mk hb; clear ho hb hg hat))
                go_roundg k1
                case measure => omega
                case rel => exact ⟨j + 1, by first | rfl | (rw [HI1.out]), ⟨by have := HI.out; omega⟩, HO3, HB3⟩
end Go.Proofs.Ytcbjkejboegmlaa.HW
