import Derived.Test.YtcbjkejboegmlaaZJnX
/- The reference's Rows: its drawn regions, each walked by itself. -/
set_option linter.unusedVariables false
set_option linter.unusedSimpArgs false
namespace Go.Proofs.Ytcbjkejboegmlaa.HW
open Go.RowKit Go.Proofs.Ytcbjkejboegmlaa.P Go.Proofs.Ytcbjkejboegmlaa.HP Go.Proofs.YtcbjkejboegmlaaW.PrintWords Go.Proofs.YtcbjkejboegmlaaW.PrintLast Go.Proofs.YtcbjkejboegmlaaW.PrintMore
attribute [local go_sem] max2_int min2_int max_two min_two max_three min_three max_four min_four
set_option maxHeartbeats 8000000 in
set_option maxRecDepth 100000 in
theorem rrows9 {Q' : Exit → Act → World → Prop} {v0 v5 v6 v7 v8 v9 v10 v11 v12 v13 v15 v17 v18 v19 v20 v21 v22 v23 v24 v25 v26 v27 v28 v29 v30 v31 v32 v33 v34 v35 v36 v37 v38 v39 v40 v41 v42 v43 v44 v45 v46 v47 v48 v49 v50 v51 v52 v53 v54 v55 v56 v57 v58 v59 v60 v61 v62 v63 v64 v65 v66 v67 v68 v69 v70 v71 v72 v73 v74 v75 v76 v77 v78 v79 v80 v81 v82 v83 v84 v85 v86 v87 v88 v89 v90 v91 v92 v93 v94 v95 v96 v97 v98 v99 v100 v101 v102 v103 : Value} {wr : World} {adl adr : Addr} {l r : List Key} {row rj : Key} {c0 c1 cl cj : Nat} {Al Aj : Option Addr} {i j : Nat} {lk rk : List Int} {c2 c3 : Nat} {A2 A3 : Option Addr} {b : Bool} {ops : Array Oper} (hops : ((Try.f11.body.map (regOps 9)).getD []).headD #[] = ops) (hP : ∀ c (a : Act) (T : Option Tmp) (v : Value) (w : World), Q' (.panic c) (a.put T v) w → Q' (.panic c) a w)
    (hlc : wr.cell? (adl.add i) = some (.slice Al row.length cl)) (hrc : wr.cell? (adr.add j) = some (.slice Aj rj.length cj)) (tj : j < r.length) (ti : i < l.length)
    (HMC : Aside0 (Calls Try.prog 16 #[.slice Al row.length cl, .slice Aj rj.length cj, .slice A2 lk.length c2, .slice A3 rk.length c3] wr.drew fun e w' => e = .returned (.bool b) ∧ Drawn0 wr.drew w'))
    (hK : ∀ (x31 x32 x33 x34 x35 x36 x37 x38 x39 x40 : Value) (w' : World), Below wr.heap.size wr w' → Q' .normal { tmps := #[v0, .slice (some adl) l.length c0, .slice (some adr) r.length c1, .slice A2 lk.length c2, .slice A3 rk.length c3, v5, v6, v7, v8, v9, v10, v11, v12, v13, .int .i64 (i : Int), v15, .int .i64 (j : Int), v17, v18, v19, v20, v21, v22, v23, v24, v25, v26, v27, v28, v29, v30, x31, x32, x33, x34, x35, x36, x37, x38, x39, x40, .bool b, v42, v43, v44, v45, v46, v47, v48, v49, v50, v51, v52, v53, v54, v55, v56, v57, v58, v59, v60, v61, v62, v63, v64, v65, v66, v67, v68, v69, v70, v71, v72, v73, v74, v75, v76, v77, v78, v79, v80, v81, v82, v83, v84, v85, v86, v87, v88, v89, v90, v91, v92, v93, v94, v95, v96, v97, v98, v99, v100, v101, v102, v103], defers := [] } w') :
    (Code.region 9 ops true).wp Try.prog Q' { tmps := #[v0, .slice (some adl) l.length c0, .slice (some adr) r.length c1, .slice A2 lk.length c2, .slice A3 rk.length c3, v5, v6, v7, v8, v9, v10, v11, v12, v13, .int .i64 (i : Int), v15, .int .i64 (j : Int), v17, v18, v19, v20, v21, v22, v23, v24, v25, v26, v27, v28, v29, v30, v31, v32, v33, v34, v35, v36, v37, v38, v39, v40, v41, v42, v43, v44, v45, v46, v47, v48, v49, v50, v51, v52, v53, v54, v55, v56, v57, v58, v59, v60, v61, v62, v63, v64, v65, v66, v67, v68, v69, v70, v71, v72, v73, v74, v75, v76, v77, v78, v79, v80, v81, v82, v83, v84, v85, v86, v87, v88, v89, v90, v91, v92, v93, v94, v95, v96, v97, v98, v99, v100, v101, v102, v103], defers := [] } wr := by
  subst hops
  have pj : ((0 : Int) ≤ (j : Int)) = True := eq_true (by omega)
  have qj : ((j : Int) < (r.length : Int)) = True := eq_true (by omega)
  have qjn : (j < r.length) = True := eq_true tj
  have pi : ((0 : Int) ≤ (i : Int)) = True := eq_true (by omega)
  have qi : ((i : Int) < (l.length : Int)) = True := eq_true (by omega)
  have qin : (i < l.length) = True := eq_true ti
  have HK := Aside0.mk hK
  have HBu := Aside0.mk (below_drew1 (Below.refl wr.heap.size wr))
  clear tj ti hK
  simp only [Try.f11, Option.map_some, regOps, Nat.reduceBEq, cond_true, cond_false, List.nil_append, List.append_nil, List.cons_append, Option.getD_some, List.headD_cons]
  refine start_ (n := 11) (S := fun w' => w'.cell? (adl.add i) = some (.slice Al row.length cl) ∧ w'.cell? (adr.add j) = some (.slice Aj rj.length cj)) (ds := []) #[false, false, false, false, false, false, false, false, false, false, false] (by kernel_rfl) rfl rfl ⟨hlc, hrc⟩ (fun hHeld => ?_)
  refine pure_ (i := 0) (N := some 31) (v := ?_) (a' := ?_) #[true, false, false, false, false, false, false, false, false, false, false] rfl rfl (by kernel_rfl) (fun _ _ _ h => hP _ _ _ _ _ h) (Or.inl ⟨by rfl, ?_⟩) ?_ ?_
  rotate_left
  · intro w'
    go_simp
    with_reducible rfl
  rotate_left
  · simp only [Act.put, List.setIfInBounds_toArray, List.set_cons_zero, List.set_cons_succ, i64_w, i32_w]
    rfl
  refine pure_ (i := 1) (N := some 32) (v := ?_) (a' := ?_) #[true, true, false, false, false, false, false, false, false, false, false] rfl rfl (by kernel_rfl) (fun _ _ _ h => hP _ _ _ _ _ h) (Or.inl ⟨by rfl, ?_⟩) ?_ ?_
  rotate_left
  · intro w'
    go_simp
    with_reducible rfl
  rotate_left
  · simp only [Act.put, List.setIfInBounds_toArray, List.set_cons_zero, List.set_cons_succ, i64_w, i32_w]
    rfl
  refine pure_ (i := 2) (N := some 33) (v := ?_) (a' := ?_) #[true, true, true, false, false, false, false, false, false, false, false] rfl rfl (by kernel_rfl) (fun _ _ _ h => hP _ _ _ _ _ h) (Or.inl ⟨by rfl, ?_⟩) ?_ ?_
  rotate_left
  · intro w'
    go_simp
    with_reducible rfl
  rotate_left
  · simp only [Act.put, List.setIfInBounds_toArray, List.set_cons_zero, List.set_cons_succ, i64_w, i32_w]
    rfl
  refine pure_ (i := 4) (N := some 35) (v := ?_) (a' := ?_) #[true, true, true, false, true, false, false, false, false, false, false] rfl rfl (by kernel_rfl) (fun _ _ _ h => hP _ _ _ _ _ h) (Or.inl ⟨by rfl, ?_⟩) ?_ ?_
  rotate_left
  · intro w'
    go_simp
    with_reducible rfl
  rotate_left
  · simp only [Act.put, List.setIfInBounds_toArray, List.set_cons_zero, List.set_cons_succ, i64_w, i32_w]
    rfl
  refine pure_ (i := 5) (N := some 36) (v := ?_) (a' := ?_) #[true, true, true, false, true, true, false, false, false, false, false] rfl rfl (by kernel_rfl) (fun _ _ _ h => hP _ _ _ _ _ h) (Or.inl ⟨by rfl, ?_⟩) ?_ ?_
  rotate_left
  · intro w'
    go_simp
    with_reducible rfl
  rotate_left
  · simp only [Act.put, List.setIfInBounds_toArray, List.set_cons_zero, List.set_cons_succ, i64_w, i32_w]
    rfl
  refine pure_ (i := 6) (N := some 37) (v := ?_) (a' := ?_) #[true, true, true, false, true, true, true, false, false, false, false] rfl rfl (by kernel_rfl) (fun _ _ _ h => hP _ _ _ _ _ h) (Or.inl ⟨by rfl, ?_⟩) ?_ ?_
  rotate_left
  · intro w'
    go_simp
    with_reducible rfl
  rotate_left
  · simp only [Act.put, List.setIfInBounds_toArray, List.set_cons_zero, List.set_cons_succ, i64_w, i32_w]
    rfl
  refine pure_ (i := 8) (N := some 39) (v := ?_) (a' := ?_) #[true, true, true, false, true, true, true, false, true, false, false] rfl rfl (by kernel_rfl) (fun _ _ _ h => hP _ _ _ _ _ h) (Or.inl ⟨by rfl, ?_⟩) ?_ ?_
  rotate_left
  · intro w'
    go_simp
    with_reducible rfl
  rotate_left
  · simp only [Act.put, List.setIfInBounds_toArray, List.set_cons_zero, List.set_cons_succ, i64_w, i32_w]
    rfl
  refine pure_ (i := 9) (N := some 40) (v := ?_) (a' := ?_) #[true, true, true, false, true, true, true, false, true, true, false] rfl rfl (by kernel_rfl) (fun _ _ _ h => hP _ _ _ _ _ h) (Or.inl ⟨by rfl, ?_⟩) ?_ ?_
  rotate_left
  · intro w'
    go_simp
    with_reducible rfl
  rotate_left
  · simp only [Act.put, List.setIfInBounds_toArray, List.set_cons_zero, List.set_cons_succ, i64_w, i32_w]
    rfl
  refine take_ (i := 3) (N := some 34) (v := ?_) (a' := ?_) #[true, true, true, true, true, true, true, false, true, true, false] rfl rfl (by kernel_rfl) (fun _ _ _ h => hP _ _ _ _ _ h) (Or.inl ⟨by rfl, ?_⟩) hHeld ?_ ?_
  rotate_left
  · rintro w' ⟨s0, s1⟩
    go_simp
    with_reducible rfl
  rotate_left
  · simp only [Act.put, List.setIfInBounds_toArray, List.set_cons_zero, List.set_cons_succ, i64_w, i32_w]
    rfl
  refine take_ (i := 7) (N := some 38) (v := ?_) (a' := ?_) #[true, true, true, true, true, true, true, true, true, true, false] rfl rfl (by kernel_rfl) (fun _ _ _ h => hP _ _ _ _ _ h) (Or.inl ⟨by rfl, ?_⟩) hHeld ?_ ?_
  rotate_left
  · rintro w' ⟨s0, s1⟩
    go_simp
    with_reducible rfl
  rotate_left
  · simp only [Act.put, List.setIfInBounds_toArray, List.set_cons_zero, List.set_cons_succ, i64_w, i32_w]
    rfl
  refine one_ (i := 10) (N := some 41) #[true, true, true, true, true, true, true, true, true, true, true] rfl rfl (by kernel_rfl) (by decide) (fun K hK => ?_)
  refine goes_ Try.func16 (by kernel_rfl) rfl #[.slice Al row.length cl, .slice Aj rj.length cj, .slice A2 lk.length c2, .slice A3 rk.length c3] (by rfl) rfl rfl (by simp only [List.map_toArray, List.map_cons, List.map_nil]; rfl) ?_
  with_reducible refine (HMC.out).mono ?_
  rintro e w8 ⟨rfl, hd8⟩
  refine ⟨_, rfl, ?_⟩
  have HD8 := Aside0.mk hd8.below
  clear hd8
  refine hK.out _ _ ⟨(cell_later_ (w := wr.drew) hlc HD8.out), (cell_later_ (w := wr.drew) hrc HD8.out)⟩ (fun hHeld => ?_)
  clear hK K
  refine norm_ (a' := ?_) ?_ ?_
  rotate_left
  · show Act.put _ (some 41) _ = _
    simp only [Act.put, List.setIfInBounds_toArray, List.set_cons_zero, List.set_cons_succ, i64_w, i32_w]
    rfl
  refine done_ (by kernel_rfl) ?_

  exact HK.out _ _ _ _ _ _ _ _ _ _ _ (HBu.out.trans (HD8.out.mono (below_size HBu.out)))
set_option maxHeartbeats 8000000 in
set_option maxRecDepth 100000 in
theorem rrows12 {Q' : Exit → Act → World → Prop} {v0 v3 v4 v5 v6 v7 v8 v9 v10 v11 v12 v15 v17 v18 v19 v20 v21 v22 v23 v24 v25 v26 v27 v28 v29 v30 v31 v32 v33 v34 v35 v36 v37 v38 v39 v40 v41 v42 v43 v44 v45 v46 v47 v48 v49 v50 v51 v52 v53 v54 v55 v56 v57 v58 v59 v60 v61 v62 v63 v64 v65 v66 v67 v68 v69 v70 v71 v72 v73 v74 v75 v76 v77 v78 v79 v80 v81 v82 v83 v84 v85 v86 v87 v88 v89 v90 v91 v92 v93 v94 v95 v96 v97 v98 v99 v100 v101 v102 v103 : Value} {wr : World} {adl adr : Addr} {l r : List Key} {row rj : Key} {c0 c1 cl cj : Nat} {Al Aj : Option Addr} {i j : Nat} {vO : Value} {acc : List Key} {B : Nat} {ops : Array Oper} (hops : ((Try.f11.body.map (regOps 12)).getD []).headD #[] = ops) (hP : ∀ c (a : Act) (T : Option Tmp) (v : Value) (w : World), Q' (.panic c) (a.put T v) w → Q' (.panic c) a w)
    (hlc : wr.cell? (adl.add i) = some (.slice Al row.length cl)) (hrc : wr.cell? (adr.add j) = some (.slice Aj rj.length cj)) (tj : j < r.length) (ti : i < l.length)
    (HC1 : Aside0 (∀ V, Below wr.heap.size wr V → Kd.C k43 V Al row.length row)) (HC2 : Aside0 (∀ V, Below wr.heap.size wr V → Kd.C k43 V Aj rj.length rj)) (HLN : Aside0 (row.length ≤ 1000 ∧ rj.length ≤ 1000 ∧ acc.length ≤ 1000000)) (HBB : Aside0 (B ≤ wr.heap.size)) (HO : Aside0 (Kd.R (Kd.slice 43 k43) 38 wr B (fun _ => True) vO acc))
    (hK : ∀ (x46 x47 x48 x49 x50 x51 x52 x53 x54 x55 x56 x57 x58 : Value) (v : Value) (w' : World), Kd.R (Kd.slice 43 k43) 38 w' B (fun _ => True) v (acc ++ [row ++ rj]) → Below B wr w' → Q' .normal { tmps := #[v0, .slice (some adl) l.length c0, .slice (some adr) r.length c1, v3, v4, v5, v6, v7, v8, v9, v10, v11, v12, v, .int .i64 (i : Int), v15, .int .i64 (j : Int), v17, v18, v19, v20, v21, v22, v23, v24, v25, v26, v27, v28, v29, v30, v31, v32, v33, v34, v35, v36, v37, v38, v39, v40, v41, v42, v43, v44, v45, x46, x47, x48, x49, x50, x51, x52, x53, x54, x55, x56, x57, x58, v, v60, v61, v62, v63, v64, v65, v66, v67, v68, v69, v70, v71, v72, v73, v74, v75, v76, v77, v78, v79, v80, v81, v82, v83, v84, v85, v86, v87, v88, v89, v90, v91, v92, v93, v94, v95, v96, v97, v98, v99, v100, v101, v102, v103], defers := [] } w') :
    (Code.region 12 ops true).wp Try.prog Q' { tmps := #[v0, .slice (some adl) l.length c0, .slice (some adr) r.length c1, v3, v4, v5, v6, v7, v8, v9, v10, v11, v12, vO, .int .i64 (i : Int), v15, .int .i64 (j : Int), v17, v18, v19, v20, v21, v22, v23, v24, v25, v26, v27, v28, v29, v30, v31, v32, v33, v34, v35, v36, v37, v38, v39, v40, v41, v42, v43, v44, v45, v46, v47, v48, v49, v50, v51, v52, v53, v54, v55, v56, v57, v58, v59, v60, v61, v62, v63, v64, v65, v66, v67, v68, v69, v70, v71, v72, v73, v74, v75, v76, v77, v78, v79, v80, v81, v82, v83, v84, v85, v86, v87, v88, v89, v90, v91, v92, v93, v94, v95, v96, v97, v98, v99, v100, v101, v102, v103], defers := [] } wr := by
  subst hops
  have pj : ((0 : Int) ≤ (j : Int)) = True := eq_true (by omega)
  have qj : ((j : Int) < (r.length : Int)) = True := eq_true (by omega)
  have qjn : (j < r.length) = True := eq_true tj
  have pi : ((0 : Int) ≤ (i : Int)) = True := eq_true (by omega)
  have qi : ((i : Int) < (l.length : Int)) = True := eq_true (by omega)
  have qin : (i < l.length) = True := eq_true ti
  have HK := Aside0.mk hK
  have HBu := Aside0.mk (below_drew1 (Below.refl wr.heap.size wr))
  obtain ⟨big, hbig⟩ : ∃ b, b = row ++ rj := ⟨_, rfl⟩
  have HBIG := Aside0.mk hbig
  rw [← hbig] at hK HK
  clear hbig
  clear tj ti hK
  simp only [Try.f11, Option.map_some, regOps, Nat.reduceBEq, cond_true, cond_false, List.nil_append, List.append_nil, List.cons_append, Option.getD_some, List.headD_cons]
  refine start_ (n := 15) (S := fun w' => w'.cell? (adl.add i) = some (.slice Al row.length cl) ∧ w'.cell? (adr.add j) = some (.slice Aj rj.length cj)) (ds := [13]) #[false, false, false, false, false, false, false, false, false, false, false, false, false, false, false] (by kernel_rfl) rfl rfl ⟨hlc, hrc⟩ (fun hHeld => ?_)
  refine pure_ (i := 0) (N := some 46) (v := ?_) (a' := ?_) #[true, false, false, false, false, false, false, false, false, false, false, false, false, false, false] rfl rfl (by kernel_rfl) (fun _ _ _ h => hP _ _ _ _ _ h) (Or.inl ⟨by rfl, ?_⟩) ?_ ?_
  rotate_left
  · intro w'
    go_simp
    with_reducible rfl
  rotate_left
  · simp only [Act.put, List.setIfInBounds_toArray, List.set_cons_zero, List.set_cons_succ, i64_w, i32_w]
    rfl
  refine pure_ (i := 2) (N := some 48) (v := ?_) (a' := ?_) #[true, false, true, false, false, false, false, false, false, false, false, false, false, false, false] rfl rfl (by kernel_rfl) (fun _ _ _ h => hP _ _ _ _ _ h) (Or.inl ⟨by rfl, ?_⟩) ?_ ?_
  rotate_left
  · intro w'
    go_simp
    with_reducible rfl
  rotate_left
  · simp only [Act.put, List.setIfInBounds_toArray, List.set_cons_zero, List.set_cons_succ, i64_w, i32_w]
    rfl
  refine pure_ (i := 3) (N := some 49) (v := ?_) (a' := ?_) #[true, false, true, true, false, false, false, false, false, false, false, false, false, false, false] rfl rfl (by kernel_rfl) (fun _ _ _ h => hP _ _ _ _ _ h) (Or.inl ⟨by rfl, ?_⟩) ?_ ?_
  rotate_left
  · intro w'
    go_simp
    with_reducible rfl
  rotate_left
  · simp only [Act.put, List.setIfInBounds_toArray, List.set_cons_zero, List.set_cons_succ, i64_w, i32_w]
    rfl
  refine pure_ (i := 4) (N := some 50) (v := ?_) (a' := ?_) #[true, false, true, true, true, false, false, false, false, false, false, false, false, false, false] rfl rfl (by kernel_rfl) (fun _ _ _ h => hP _ _ _ _ _ h) (Or.inl ⟨by rfl, ?_⟩) ?_ ?_
  rotate_left
  · intro w'
    go_simp
    with_reducible rfl
  rotate_left
  · simp only [Act.put, List.setIfInBounds_toArray, List.set_cons_zero, List.set_cons_succ, i64_w, i32_w]
    rfl
  refine pure_ (i := 7) (N := some 53) (v := ?_) (a' := ?_) #[true, false, true, true, true, false, false, true, false, false, false, false, false, false, false] rfl rfl (by kernel_rfl) (fun _ _ _ h => hP _ _ _ _ _ h) (Or.inl ⟨by rfl, ?_⟩) ?_ ?_
  rotate_left
  · intro w'
    go_simp
    with_reducible rfl
  rotate_left
  · simp only [Act.put, List.setIfInBounds_toArray, List.set_cons_zero, List.set_cons_succ, i64_w, i32_w]
    rfl
  refine pure_ (i := 8) (N := some 54) (v := ?_) (a' := ?_) #[true, false, true, true, true, false, false, true, true, false, false, false, false, false, false] rfl rfl (by kernel_rfl) (fun _ _ _ h => hP _ _ _ _ _ h) (Or.inl ⟨by rfl, ?_⟩) ?_ ?_
  rotate_left
  · intro w'
    go_simp
    with_reducible rfl
  rotate_left
  · simp only [Act.put, List.setIfInBounds_toArray, List.set_cons_zero, List.set_cons_succ, i64_w, i32_w]
    rfl
  refine pure_ (i := 9) (N := some 55) (v := ?_) (a' := ?_) #[true, false, true, true, true, false, false, true, true, true, false, false, false, false, false] rfl rfl (by kernel_rfl) (fun _ _ _ h => hP _ _ _ _ _ h) (Or.inl ⟨by rfl, ?_⟩) ?_ ?_
  rotate_left
  · intro w'
    go_simp
    with_reducible rfl
  rotate_left
  · simp only [Act.put, List.setIfInBounds_toArray, List.set_cons_zero, List.set_cons_succ, i64_w, i32_w]
    rfl
  refine take_ (i := 5) (N := some 51) (v := ?_) (a' := ?_) #[true, false, true, true, true, true, false, true, true, true, false, false, false, false, false] rfl rfl (by kernel_rfl) (fun _ _ _ h => hP _ _ _ _ _ h) (Or.inl ⟨by rfl, ?_⟩) hHeld ?_ ?_
  rotate_left
  · rintro w' ⟨s0, s1⟩
    go_simp
    with_reducible rfl
  rotate_left
  · simp only [Act.put, List.setIfInBounds_toArray, List.set_cons_zero, List.set_cons_succ, i64_w, i32_w]
    rfl
  refine take_ (i := 10) (N := some 56) (v := ?_) (a' := ?_) #[true, false, true, true, true, true, false, true, true, true, true, false, false, false, false] rfl rfl (by kernel_rfl) (fun _ _ _ h => hP _ _ _ _ _ h) (Or.inl ⟨by rfl, ?_⟩) hHeld ?_ ?_
  rotate_left
  · rintro w' ⟨s0, s1⟩
    go_simp
    with_reducible rfl
  rotate_left
  · simp only [Act.put, List.setIfInBounds_toArray, List.set_cons_zero, List.set_cons_succ, i64_w, i32_w]
    rfl
  refine one_ (i := 1) (N := some 47) #[true, true, true, true, true, true, false, true, true, true, true, false, false, false, false] rfl rfl (by kernel_rfl) (by decide) (fun K hK => ?_)
  refine Kd.R_lit_step k43 (w0 := wr) wr.heap.size 43 (by rfl) (N := 47) rfl (xs := ([] : List S43)) (inner := []) (ok := fun _ => True) (okp := fun _ => True) ?hr1 ?hp1 (fun _ _ => trivial) trivial ?hB1 ?hS1 (by simp) ?_
  case hr1 => first | (go_simp; done) | (go_simp; rfl)
  case hp1 => exact Reps.none _ _
  case hB1 => exact HBu.out
  case hS1 => exact below_size HBu.out
  intro v47 w47 ho hb hg hat
  have HO47 := Aside0.mk ho
  have HB47 := Aside0.mk hb
  clear ho hb hg hat
  refine hK.out _ _ ⟨(cell_later_ (w := wr) hlc HB47.out), (cell_later_ (w := wr) hrc HB47.out)⟩ (fun hHeld => ?_)
  clear hK K
  refine norm_ (a' := ?_) ?_ ?_
  rotate_left
  · show Act.put _ (some 47) _ = _
    simp only [Act.put, List.setIfInBounds_toArray, List.set_cons_zero, List.set_cons_succ, i64_w, i32_w]
    rfl
  refine one_ (i := 6) (N := some 52) #[true, true, true, true, true, true, true, true, true, true, true, false, false, false, false] rfl rfl (by kernel_rfl) (by decide) (fun K hK => ?_)
  refine Kd.R_append_rows_step k43 (Rr := RV) (w0 := wr) wr.heap.size (by rfl) (.tmp 47) (.tmp 51) 38 43 (.agg #[.bool false, .string ⟨#[]⟩]) 24 (by rfl) Try.underlying38 info43 rfl (by decide) (by omega) v47 ([] : List S43) row Al (List.length row) cl (fun _ => True) (fun _ => False) rfl rfl ?aO6 ?aR6 (fun x cs h => RV_M _ _ _ x cs h) (fun _ h => h.elim) ?aF6 ?aB6 ?aS6 ?aL6 ?_
  case aO6 => exact HO47.out
  case aR6 => exact C_RV (HC1.out _ HB47.out)
  case aF6 => exact (fun _ _ => trivial)
  case aB6 => exact HB47.out
  case aS6 => exact below_size HB47.out
  case aL6 => have h9 := HLN.out; (try simp only [List.length_nil, List.length_append]); omega
  intro v52 w52 ho hb hg hat
  rw [List.nil_append] at ho
  have HO52 := Aside0.mk ho
  have HB52 := Aside0.mk hb
  clear ho hb hg hat
  refine hK.out _ _ ⟨(cell_later_ (w := wr) hlc HB52.out), (cell_later_ (w := wr) hrc HB52.out)⟩ (fun hHeld => ?_)
  clear hK K
  refine norm_ (a' := ?_) ?_ ?_
  rotate_left
  · show Act.put _ (some 52) _ = _
    simp only [Act.put, List.setIfInBounds_toArray, List.set_cons_zero, List.set_cons_succ, i64_w, i32_w]
    rfl
  refine one_ (i := 11) (N := some 57) #[true, true, true, true, true, true, true, true, true, true, true, true, false, false, false] rfl rfl (by kernel_rfl) (by decide) (fun K hK => ?_)
  refine Kd.R_append_rows_step k43 (Rr := RV) (w0 := wr) wr.heap.size (by rfl) (.tmp 52) (.tmp 56) 38 43 (.agg #[.bool false, .string ⟨#[]⟩]) 24 (by rfl) Try.underlying38 info43 rfl (by decide) (by omega) v52 row rj Aj (List.length rj) cj (fun _ => True) (fun _ => False) rfl rfl ?aO11 ?aR11 (fun x cs h => RV_M _ _ _ x cs h) (fun _ h => h.elim) ?aF11 ?aB11 ?aS11 ?aL11 ?_
  case aO11 => exact HO52.out
  case aR11 => exact C_RV (HC2.out _ HB52.out)
  case aF11 => exact (fun _ _ => trivial)
  case aB11 => exact HB52.out
  case aS11 => exact below_size HB52.out
  case aL11 => have h9 := HLN.out; (try simp only [List.length_nil, List.length_append]); omega
  intro v57 w57 ho hb hg hat
  rw [← HBIG.out] at ho
  have HO57 := Aside0.mk ho
  have HB57 := Aside0.mk hb
  clear ho hb hg hat
  obtain ⟨A57, c57, e57⟩ := Kd.R_slice HO57.out
  subst e57
  have HM57 := Aside0.mk (M_row (Kd.R_lower HO57.out HBB.out))
  have HU57 := Aside0.mk (fun k hk => Kd.R_base HO57.out k hk)
  have HA57 := Aside0.mk (Kd.R_below HO.out HB57.out)
  refine hK.out _ _ ⟨(cell_later_ (w := wr) hlc HB57.out), (cell_later_ (w := wr) hrc HB57.out)⟩ (fun hHeld => ?_)
  clear hK K
  refine norm_ (a' := ?_) ?_ ?_
  rotate_left
  · show Act.put _ (some 57) _ = _
    simp only [Act.put, List.setIfInBounds_toArray, List.set_cons_zero, List.set_cons_succ, i64_w, i32_w]
    rfl
  refine one_ (i := 12) (N := some 58) #[true, true, true, true, true, true, true, true, true, true, true, true, true, false, false] rfl rfl (by kernel_rfl) (by decide) (fun K hK => ?_)
  refine value_ (w1 := ?_) (v := ?_) (by rfl) rfl ?_ ?_
  rotate_left 2
  · go_simp
    constructor
    · rfl
    · rfl
  refine hK.out _ _ ⟨(cell_later_ (w := wr) hlc (below_alloc HB57.out _)), (cell_later_ (w := wr) hrc (below_alloc HB57.out _))⟩ (fun hHeld => ?_)
  clear hK K
  refine norm_ (a' := ?_) ?_ ?_
  rotate_left
  · show Act.put _ (some 58) _ = _
    simp only [Act.put, List.setIfInBounds_toArray, List.set_cons_zero, List.set_cons_succ, i64_w, i32_w]
    rfl
  refine last_ (i := 13) (N := some 59) #[true, true, true, true, true, true, true, true, true, true, true, true, true, true, false] rfl rfl (by kernel_rfl) (by decide) (fun K hK => ?_)
  refine Kd.R_append_step (Kd.slice 43 k43) (w0 := w57) B (by rfl) (.tmp 46) (.tmp 58) 22 38 (.slice none 0 0) 24 (by rfl) Try.underlying22 info38 rfl (by decide) (by omega) vO acc big [.slice A57 big.length c57] (fun _ => True) (fun k => some k = (Value.slice A57 big.length c57).ownBlock) rfl ?aX ?aP ?aK (fun _ _ => trivial) ?aO (Below.refl _ _) ?aS ?aL ?_
  case aX => rfl
  case aP => exact HM57.out
  case aK => exact (fun k hk => ⟨trivial, fun e => by have h1 := HU57.out k hk.symm; have h2 := Kd.R_lt HO.out k e.symm; omega⟩)
  case aO => exact HA57.out
  case aS => exact Nat.le_trans HBB.out (below_size HB57.out)
  case aL => have h9 := HLN.out; omega
  intro v59 w59 ho hb hg hat
  have HO59 := Aside0.mk ho
  have HB59 := Aside0.mk ((HB57.out.mono HBB.out).trans hb)
  clear ho hb hg hat
  refine hK.out _ _ ?_
  clear hK K
  refine norm_ (a' := ?_) ?_ ?_
  rotate_left
  · show Act.put _ (some 59) _ = _
    simp only [Act.put, List.setIfInBounds_toArray, List.set_cons_zero, List.set_cons_succ, i64_w, i32_w]
    rfl
  refine pure_ (i := 14) (N := some 13) (v := ?_) (a' := ?_) #[true, true, true, true, true, true, true, true, true, true, true, true, true, true, true] rfl rfl (by kernel_rfl) (fun _ _ _ h => hP _ _ _ _ _ h) (Or.inl ⟨by rfl, ?_⟩) ?_ ?_
  rotate_left
  · intro w'
    go_simp
    with_reducible rfl
  rotate_left
  · simp only [Act.put, List.setIfInBounds_toArray, List.set_cons_zero, List.set_cons_succ, i64_w, i32_w]
    rfl
  refine done_ (by kernel_rfl) ?_

  exact HK.out _ _ _ _ _ _ _ _ _ _ _ _ _ _ _ HO59.out HB59.out
end Go.Proofs.Ytcbjkejboegmlaa.HW
