/- CursorActs: its region 20 at acts of the kind 0, behind an error: walked by itself. -/
import Derived.Test.YtkdncanoajbdgaaActU
set_option linter.unusedVariables false
set_option linter.unusedSimpArgs false
namespace Go.Proofs.Ytkdncanoajbdgaa.HW
open Go.RowKit Go.Proofs.Ytkdncanoajbdgaa.P Go.Proofs.Ytkdncanoajbdgaa.HP Go.Proofs.YtkdncanoajbdgaaW.PrintWords Go.Proofs.YtkdncanoajbdgaaW.PrintLast Go.Proofs.YtkdncanoajbdgaaW.PrintMore
attribute [local go_sem] max2_int min2_int max_two min_two max_three min_three max_four min_four
set_option maxHeartbeats 80000000 in
set_option maxRecDepth 100000 in
theorem reg20_0n {Q' : Exit → Act → World → Prop} {v0 v1 v2 v3 v4 v6 v7 v8 v12 v13 v14 v15 v16 v17 v18 v19 v20 v21 v22 v23 v24 v25 v26 v27 v28 v29 v30 v31 v32 v33 v34 v35 v36 v37 v38 v39 v40 v41 v42 v43 v44 v45 v46 v47 v48 v49 v50 v51 v52 v53 v54 v55 v56 v57 v58 v59 v60 v61 v62 v63 v64 v65 v66 v67 v68 v69 v70 v71 v72 v73 v74 v75 v76 v77 v78 v79 v80 v81 v82 v83 v84 v85 v86 v87 v88 v89 v90 v91 v92 v93 v94 v95 v96 v97 v98 v99 v100 v101 v102 v103 v104 v105 v106 v107 v108 v109 v110 v111 v112 v113 v114 v115 v116 v117 v118 v119 v120 v121 v122 v123 v124 v125 v126 v127 v128 v129 v130 v131 v132 v133 v134 v135 v136 v137 v138 v139 v140 v141 v142 v143 v144 v145 v146 v147 v148 v149 v150 v151 v152 v153 v154 v155 v156 v157 v158 v159 v160 v161 v162 v163 v164 v165 v166 v167 v168 v169 v170 v171 v172 : Value} {A0 A5 : Option Addr} {c0 c5 : Nat} {l0 bs : List Int} {w w1 w5 wr : World} {g lo a x : Nat} {n N er e : Int} {T : ByteArray} {ops : Array Oper} (hops : ((Try.f6.body.map (regOps 20)).getD []).headD #[] = ops) (hP : ∀ c (a : Act) (T : Option Tmp) (v : Value) (w : World), Q' (.panic c) (a.put T v) w → Q' (.panic c) a w)
    (hlo : Aside0 (lo = w1.heap.size ∧ w.heap.size ≤ lo)) (HQ : Aside0 (∀ W : World, W.heap[wr.heap.size]? = some (.cells #[.int .i64 0, .int .i64 N] 38 (0, 0)) → W.cell? ⟨wr.heap.size, 0, none⟩ = some (.int .i64 0) ∧ W.cell? ⟨wr.heap.size, 1, none⟩ = some (.int .i64 N))) (HGd : Aside0 (w5.drew.heap[wr.heap.size]? = some (.cells #[.int .i64 0, .int .i64 N] 38 (0, 0)))) (HBd : Aside0 (Below w.heap.size w w5.drew)) (HCd : Aside0 (Cur lo w5.drew g l0 (a : Int) e)) (HNE : Aside0 (g < wr.heap.size)) (HF : Aside0 (cursor_Cursor_Byte.f l0 (a : Int) e = some (0, (a : Int), e))) (HNZ : Aside0 (e ≠ 0))
    (hK : ∀ (x75 x76 x77 x78 x79 x80 x81 x82 x83 x84 x85 x86 x87 x88 x89 x90 x91 x92 x93 x94 x95 x96 x97 x98 x99 x100 x101 x102 x103 x104 x105 x106 x107 x108 x109 x110 x111 x112 x113 x114 x115 x116 x117 x118 x119 x120 x121 x122 x123 x124 x125 x126 x127 x128 x129 x130 x131 x132 : Value) (w6 : World), w6.heap[wr.heap.size]? = some (.cells #[.int .i64 0, .int .i64 N] 38 (0, 0)) → Below w.heap.size w w6 → Cur lo w6 g l0 (a : Int) e → Q' .normal { tmps := #[v0, v1, v2, v3, v4, .pointer (some ⟨g, 0, none⟩), v6, v7, v8, .pointer (some ⟨wr.heap.size, 0, none⟩), .int .i64 0, .slice none 0 0, v12, v13, v14, v15, v16, v17, v18, v19, v20, v21, v22, v23, v24, v25, v26, v27, v28, v29, v30, v31, v32, v33, v34, v35, v36, v37, v38, v39, v40, v41, v42, v43, v44, v45, v46, v47, v48, v49, v50, v51, v52, v53, v54, v55, v56, v57, v58, v59, v60, v61, v62, v63, v64, v65, v66, v67, v68, v69, v70, v71, v72, v73, v74, x75, x76, x77, x78, x79, x80, x81, x82, x83, x84, x85, x86, x87, x88, x89, x90, x91, x92, x93, x94, x95, x96, x97, x98, x99, x100, x101, x102, x103, x104, x105, x106, x107, x108, x109, x110, x111, x112, x113, x114, x115, x116, x117, x118, x119, x120, x121, x122, x123, x124, x125, x126, x127, x128, x129, x130, x131, x132, .bool false, v134, v135, v136, v137, v138, v139, v140, v141, v142, v143, v144, v145, v146, v147, v148, v149, v150, v151, v152, v153, v154, v155, v156, v157, v158, v159, v160, v161, v162, v163, v164, v165, v166, v167, v168, v169, v170, v171, v172], defers := [] } w6) :
    (Code.region 20 ops true).wp Try.prog Q' { tmps := #[v0, v1, v2, v3, v4, .pointer (some ⟨g, 0, none⟩), v6, v7, v8, .pointer (some ⟨wr.heap.size, 0, none⟩), .int .i64 0, .slice none 0 0, v12, v13, v14, v15, v16, v17, v18, v19, v20, v21, v22, v23, v24, v25, v26, v27, v28, v29, v30, v31, v32, v33, v34, v35, v36, v37, v38, v39, v40, v41, v42, v43, v44, v45, v46, v47, v48, v49, v50, v51, v52, v53, v54, v55, v56, v57, v58, v59, v60, v61, v62, v63, v64, v65, v66, v67, v68, v69, v70, v71, v72, v73, v74, v75, v76, v77, v78, v79, v80, v81, v82, v83, v84, v85, v86, v87, v88, v89, v90, v91, v92, v93, v94, v95, v96, v97, v98, v99, v100, v101, v102, v103, v104, v105, v106, v107, v108, v109, v110, v111, v112, v113, v114, v115, v116, v117, v118, v119, v120, v121, v122, v123, v124, v125, v126, v127, v128, v129, v130, v131, v132, v133, v134, v135, v136, v137, v138, v139, v140, v141, v142, v143, v144, v145, v146, v147, v148, v149, v150, v151, v152, v153, v154, v155, v156, v157, v158, v159, v160, v161, v162, v163, v164, v165, v166, v167, v168, v169, v170, v171, v172], defers := [] } w5 := by
  subst hops
  have HK := Aside0.mk hK
  clear hK
  have e1 : (e == 0) = false := by simpa using HNZ.out
  have e2 : (e != 0) = true := by simpa using HNZ.out
  have e3 : decide (e = 0) = false := decide_eq_false HNZ.out
  simp only [Try.f6, Option.map_some, regOps, Nat.reduceBEq, cond_true, cond_false, List.nil_append, List.append_nil, List.cons_append, Option.getD_some, List.headD_cons]
  refine start_ (n := 59) (S := fun w' => w'.cell? ⟨wr.heap.size, 0, none⟩ = some (.int .i64 0) ∧ w'.cell? ⟨wr.heap.size, 1, none⟩ = some (.int .i64 N)) (ds := []) #[false, false, false, false, false, false, false, false, false, false, false, false, false, false, false, false, false, false, false, false, false, false, false, false, false, false, false, false, false, false, false, false, false, false, false, false, false, false, false, false, false, false, false, false, false, false, false, false, false, false, false, false, false, false, false, false, false, false, false] (by kernel_rfl) rfl rfl ⟨(HQ.out _ HGd.out).1, (HQ.out _ HGd.out).2⟩ (fun hHeld => ?_)
  refine pu 0 1 (N := some 75) (v := ?_) (a' := ?_) rfl rfl (by kernel_rfl) (fun _ _ _ h => hP _ _ _ _ _ h) (by rfl) ?_ ?_ ?_
  rotate_left
  · intro w'; go_simp; with_reducible rfl
  rotate_left
  · simp only [Act.put, n1, n2, n3]; rfl
  refine tk 1 3 (N := some 76) (v := ?_) (a' := ?_) rfl rfl (by kernel_rfl) (fun _ _ _ h => hP _ _ _ _ _ h) (by rfl) ?_ hHeld ?_ ?_
  rotate_left
  · rintro w' ⟨s0, s1⟩; go_simp; with_reducible rfl
  rotate_left
  · simp only [Act.put, n1, n2, n3]; rfl
  refine pu 2 7 (N := some 77) (v := ?_) (a' := ?_) rfl rfl (by kernel_rfl) (fun _ _ _ h => hP _ _ _ _ _ h) (by rfl) ?_ ?_ ?_
  rotate_left
  · intro w'; go_simp; with_reducible rfl
  rotate_left
  · simp only [Act.put, n1, n2, n3]; rfl
  refine pu 3 15 (N := some 78) (v := ?_) (a' := ?_) rfl rfl (by kernel_rfl) (fun _ _ _ h => hP _ _ _ _ _ h) (by rfl) ?_ ?_ ?_
  rotate_left
  · intro w'; go_simp; with_reducible rfl
  rotate_left
  · simp only [Act.put, n1, n2, n3]; rfl
  refine pu 4 31 (N := some 79) (v := ?_) (a' := ?_) rfl rfl (by kernel_rfl) (fun _ _ _ h => hP _ _ _ _ _ h) (by rfl) ?_ ?_ ?_
  rotate_left
  · intro w'; go_simp; with_reducible rfl
  rotate_left
  · simp only [Act.put, n1, n2, n3]; rfl
  refine pu 6 95 (N := some 81) (v := ?_) (a' := ?_) rfl rfl (by kernel_rfl) (fun _ _ _ h => hP _ _ _ _ _ h) (by rfl) ?_ ?_ ?_
  rotate_left
  · intro w'; go_simp; with_reducible rfl
  rotate_left
  · simp only [Act.put, n1, n2, n3]; rfl
  refine one_ (i := 5) (N := some 80) #[true, true, true, true, true, true, true, false, false, false, false, false, false, false, false, false, false, false, false, false, false, false, false, false, false, false, false, false, false, false, false, false, false, false, false, false, false, false, false, false, false, false, false, false, false, false, false, false, false, false, false, false, false, false, false, false, false, false, false] rfl rfl (by kernel_rfl) (by decide) (fun K hK => ?_)
  refine goes_ Try.func25 (by kernel_rfl) rfl #[.pointer (some ⟨g, 0, none⟩)] (by rfl) rfl rfl (by simp only [List.map_toArray, List.map_cons, List.map_nil]; rfl) ?_
  with_reducible refine (HCd.out.byte HF.out).mono ?_
  rintro e6 w6 ⟨rfl, hc6, hk6, hb6⟩
  refine ⟨_, rfl, ?_⟩
  have HG6 := Aside0.mk ((hk6.2 wr.heap.size (blk_lt HGd.out) (by have := HNE.out; omega) (by simp)).trans HGd.out)
  have HB6 := Aside0.mk (Cur.wide2 HBd.out hb6 hlo.out.2)
  have HC6 := Aside0.mk hc6
  clear hc6 hk6 hb6
  refine hK.out _ _ ⟨(HQ.out _ HG6.out).1, (HQ.out _ HG6.out).2⟩ (fun hHeld => ?_)
  clear hK K
  refine norm_ (a' := ?_) ?_ ?_
  rotate_left
  · show Act.put _ (some 80) _ = _
    simp only [Act.put, List.setIfInBounds_toArray, List.set_cons_zero, List.set_cons_succ, i64_w, i32_w]
    rfl
  refine pu 7 255 (N := some 82) (v := ?_) (a' := ?_) rfl rfl (by kernel_rfl) (fun _ _ _ h => hP _ _ _ _ _ h) (by rfl) ?_ ?_ ?_
  rotate_left
  · intro w'; go_simp; with_reducible rfl
  rotate_left
  · simp only [Act.put, n1, n2, n3]; rfl
  refine pu 8 511 (N := some 83) (v := ?_) (a' := ?_) rfl rfl (by kernel_rfl) (fun _ _ _ h => hP _ _ _ _ _ h) (by rfl) ?_ ?_ ?_
  rotate_left
  · intro w'; go_simp; with_reducible rfl
  rotate_left
  · simp only [Act.put, n1, n2, n3]; rfl
  refine pu 9 1023 (N := some 84) (v := ?_) (a' := ?_) rfl rfl (by kernel_rfl) (fun _ _ _ h => hP _ _ _ _ _ h) (by rfl) ?_ ?_ ?_
  rotate_left
  · intro w'; go_simp; with_reducible rfl
  rotate_left
  · simp only [Act.put, n1, n2, n3]; rfl
  refine pu 10 2047 (N := some 85) (v := ?_) (a' := ?_) rfl rfl (by kernel_rfl) (fun _ _ _ h => hP _ _ _ _ _ h) (by rfl) ?_ ?_ ?_
  rotate_left
  · intro w'; go_simp; with_reducible rfl
  rotate_left
  · simp only [Act.put, n1, n2, n3]; rfl
  refine tk 11 4095 (N := some 86) (v := ?_) (a' := ?_) rfl rfl (by kernel_rfl) (fun _ _ _ h => hP _ _ _ _ _ h) (by rfl) ?_ hHeld ?_ ?_
  rotate_left
  · rintro w' ⟨s0, s1⟩; go_simp; with_reducible rfl
  rotate_left
  · simp only [Act.put, n1, n2, n3]; rfl
  refine pu 12 8191 (N := some 87) (v := ?_) (a' := ?_) rfl rfl (by kernel_rfl) (fun _ _ _ h => hP _ _ _ _ _ h) (by rfl) ?_ ?_ ?_
  rotate_left
  · intro w'; go_simp; with_reducible rfl
  rotate_left
  · simp only [Act.put, n1, n2, n3]; rfl
  refine pu 13 16383 (N := some 88) (v := ?_) (a' := ?_) rfl rfl (by kernel_rfl) (fun _ _ _ h => hP _ _ _ _ _ h) (by rfl) ?_ ?_ ?_
  rotate_left
  · intro w'; go_simp; with_reducible rfl
  rotate_left
  · simp only [Act.put, n1, n2, n3]; rfl
  refine po 14 32767 (N := some 89) (a' := ?_) rfl rfl (by kernel_rfl) (fun _ _ _ h => hP _ _ _ _ _ h) (by rfl) ?_ ?_
  rotate_left
  · simp only [Act.put, n1, n2, n3]; rfl
  refine po 15 65535 (N := some 90) (a' := ?_) rfl rfl (by kernel_rfl) (fun _ _ _ h => hP _ _ _ _ _ h) (by rfl) ?_ ?_
  rotate_left
  · simp only [Act.put, n1, n2, n3]; rfl
  refine po 16 131071 (N := some 91) (a' := ?_) rfl rfl (by kernel_rfl) (fun _ _ _ h => hP _ _ _ _ _ h) (by rfl) ?_ ?_
  rotate_left
  · simp only [Act.put, n1, n2, n3]; rfl
  refine po 17 262143 (N := some 92) (a' := ?_) rfl rfl (by kernel_rfl) (fun _ _ _ h => hP _ _ _ _ _ h) (by rfl) ?_ ?_
  rotate_left
  · simp only [Act.put, n1, n2, n3]; rfl
  refine po 18 524287 (N := some 93) (a' := ?_) rfl rfl (by kernel_rfl) (fun _ _ _ h => hP _ _ _ _ _ h) (by rfl) ?_ ?_
  rotate_left
  · simp only [Act.put, n1, n2, n3]; rfl
  refine po 19 1048575 (N := some 94) (a' := ?_) rfl rfl (by kernel_rfl) (fun _ _ _ h => hP _ _ _ _ _ h) (by rfl) ?_ ?_
  rotate_left
  · simp only [Act.put, n1, n2, n3]; rfl
  refine po 20 2097151 (N := some 95) (a' := ?_) rfl rfl (by kernel_rfl) (fun _ _ _ h => hP _ _ _ _ _ h) (by rfl) ?_ ?_
  rotate_left
  · simp only [Act.put, n1, n2, n3]; rfl
  refine pu 21 4194303 (N := some 96) (v := ?_) (a' := ?_) rfl rfl (by kernel_rfl) (fun _ _ _ h => hP _ _ _ _ _ h) (by rfl) ?_ ?_ ?_
  rotate_left
  · intro w'; go_simp; with_reducible rfl
  rotate_left
  · simp only [Act.put, n1, n2, n3]; rfl
  refine pu 22 8388607 (N := some 97) (v := ?_) (a' := ?_) rfl rfl (by kernel_rfl) (fun _ _ _ h => hP _ _ _ _ _ h) (by rfl) ?_ ?_ ?_
  rotate_left
  · intro w'; go_simp; with_reducible rfl
  rotate_left
  · simp only [Act.put, n1, n2, n3]; rfl
  refine pu 23 16777215 (N := some 98) (v := ?_) (a' := ?_) rfl rfl (by kernel_rfl) (fun _ _ _ h => hP _ _ _ _ _ h) (by rfl) ?_ ?_ ?_
  rotate_left
  · intro w'; go_simp; with_reducible rfl
  rotate_left
  · simp only [Act.put, n1, n2, n3]; rfl
  refine pu 24 33554431 (N := some 99) (v := ?_) (a' := ?_) rfl rfl (by kernel_rfl) (fun _ _ _ h => hP _ _ _ _ _ h) (by rfl) ?_ ?_ ?_
  rotate_left
  · intro w'; go_simp; with_reducible rfl
  rotate_left
  · simp only [Act.put, n1, n2, n3]; rfl
  refine tk 25 67108863 (N := some 100) (v := ?_) (a' := ?_) rfl rfl (by kernel_rfl) (fun _ _ _ h => hP _ _ _ _ _ h) (by rfl) ?_ hHeld ?_ ?_
  rotate_left
  · rintro w' ⟨s0, s1⟩; go_simp; with_reducible rfl
  rotate_left
  · simp only [Act.put, n1, n2, n3]; rfl
  refine pu 26 134217727 (N := some 101) (v := ?_) (a' := ?_) rfl rfl (by kernel_rfl) (fun _ _ _ h => hP _ _ _ _ _ h) (by rfl) ?_ ?_ ?_
  rotate_left
  · intro w'; go_simp; with_reducible rfl
  rotate_left
  · simp only [Act.put, n1, n2, n3]; rfl
  refine pu 27 268435455 (N := some 102) (v := ?_) (a' := ?_) rfl rfl (by kernel_rfl) (fun _ _ _ h => hP _ _ _ _ _ h) (by rfl) ?_ ?_ ?_
  rotate_left
  · intro w'; go_simp; with_reducible rfl
  rotate_left
  · simp only [Act.put, n1, n2, n3]; rfl
  refine po 28 536870911 (N := some 103) (a' := ?_) rfl rfl (by kernel_rfl) (fun _ _ _ h => hP _ _ _ _ _ h) (by rfl) ?_ ?_
  rotate_left
  · simp only [Act.put, n1, n2, n3]; rfl
  refine po 29 1073741823 (N := some 104) (a' := ?_) rfl rfl (by kernel_rfl) (fun _ _ _ h => hP _ _ _ _ _ h) (by rfl) ?_ ?_
  rotate_left
  · simp only [Act.put, n1, n2, n3]; rfl
  refine po 30 2147483647 (N := some 105) (a' := ?_) rfl rfl (by kernel_rfl) (fun _ _ _ h => hP _ _ _ _ _ h) (by rfl) ?_ ?_
  rotate_left
  · simp only [Act.put, n1, n2, n3]; rfl
  refine po 31 4294967295 (N := some 106) (a' := ?_) rfl rfl (by kernel_rfl) (fun _ _ _ h => hP _ _ _ _ _ h) (by rfl) ?_ ?_
  rotate_left
  · simp only [Act.put, n1, n2, n3]; rfl
  refine pu 32 8589934591 (N := some 107) (v := ?_) (a' := ?_) rfl rfl (by kernel_rfl) (fun _ _ _ h => hP _ _ _ _ _ h) (by rfl) ?_ ?_ ?_
  rotate_left
  · intro w'; go_simp; with_reducible rfl
  rotate_left
  · simp only [Act.put, n1, n2, n3]; rfl
  refine pu 33 17179869183 (N := some 108) (v := ?_) (a' := ?_) rfl rfl (by kernel_rfl) (fun _ _ _ h => hP _ _ _ _ _ h) (by rfl) ?_ ?_ ?_
  rotate_left
  · intro w'; go_simp; with_reducible rfl
  rotate_left
  · simp only [Act.put, n1, n2, n3]; rfl
  refine pu 34 34359738367 (N := some 109) (v := ?_) (a' := ?_) rfl rfl (by kernel_rfl) (fun _ _ _ h => hP _ _ _ _ _ h) (by rfl) ?_ ?_ ?_
  rotate_left
  · intro w'; go_simp; with_reducible rfl
  rotate_left
  · simp only [Act.put, n1, n2, n3]; rfl
  refine pu 35 68719476735 (N := some 110) (v := ?_) (a' := ?_) rfl rfl (by kernel_rfl) (fun _ _ _ h => hP _ _ _ _ _ h) (by rfl) ?_ ?_ ?_
  rotate_left
  · intro w'; go_simp; with_reducible rfl
  rotate_left
  · simp only [Act.put, n1, n2, n3]; rfl
  refine tk 36 137438953471 (N := some 111) (v := ?_) (a' := ?_) rfl rfl (by kernel_rfl) (fun _ _ _ h => hP _ _ _ _ _ h) (by rfl) ?_ hHeld ?_ ?_
  rotate_left
  · rintro w' ⟨s0, s1⟩; go_simp; with_reducible rfl
  rotate_left
  · simp only [Act.put, n1, n2, n3]; rfl
  refine pu 37 274877906943 (N := some 112) (v := ?_) (a' := ?_) rfl rfl (by kernel_rfl) (fun _ _ _ h => hP _ _ _ _ _ h) (by rfl) ?_ ?_ ?_
  rotate_left
  · intro w'; go_simp; with_reducible rfl
  rotate_left
  · simp only [Act.put, n1, n2, n3]; rfl
  refine pu 38 549755813887 (N := some 113) (v := ?_) (a' := ?_) rfl rfl (by kernel_rfl) (fun _ _ _ h => hP _ _ _ _ _ h) (by rfl) ?_ ?_ ?_
  rotate_left
  · intro w'; go_simp; with_reducible rfl
  rotate_left
  · simp only [Act.put, n1, n2, n3]; rfl
  refine po 39 1099511627775 (N := some 114) (a' := ?_) rfl rfl (by kernel_rfl) (fun _ _ _ h => hP _ _ _ _ _ h) (by rfl) ?_ ?_
  rotate_left
  · simp only [Act.put, n1, n2, n3]; rfl
  refine po 40 2199023255551 (N := some 115) (a' := ?_) rfl rfl (by kernel_rfl) (fun _ _ _ h => hP _ _ _ _ _ h) (by rfl) ?_ ?_
  rotate_left
  · simp only [Act.put, n1, n2, n3]; rfl
  refine po 41 4398046511103 (N := some 116) (a' := ?_) rfl rfl (by kernel_rfl) (fun _ _ _ h => hP _ _ _ _ _ h) (by rfl) ?_ ?_
  rotate_left
  · simp only [Act.put, n1, n2, n3]; rfl
  refine po 42 8796093022207 (N := some 117) (a' := ?_) rfl rfl (by kernel_rfl) (fun _ _ _ h => hP _ _ _ _ _ h) (by rfl) ?_ ?_
  rotate_left
  · simp only [Act.put, n1, n2, n3]; rfl
  refine po 43 17592186044415 (N := some 118) (a' := ?_) rfl rfl (by kernel_rfl) (fun _ _ _ h => hP _ _ _ _ _ h) (by rfl) ?_ ?_
  rotate_left
  · simp only [Act.put, n1, n2, n3]; rfl
  refine po 44 35184372088831 (N := some 119) (a' := ?_) rfl rfl (by kernel_rfl) (fun _ _ _ h => hP _ _ _ _ _ h) (by rfl) ?_ ?_
  rotate_left
  · simp only [Act.put, n1, n2, n3]; rfl
  refine pu 45 70368744177663 (N := some 120) (v := ?_) (a' := ?_) rfl rfl (by kernel_rfl) (fun _ _ _ h => hP _ _ _ _ _ h) (by rfl) ?_ ?_ ?_
  rotate_left
  · intro w'; go_simp; with_reducible rfl
  rotate_left
  · simp only [Act.put, n1, n2, n3]; rfl
  refine pu 46 140737488355327 (N := some 121) (v := ?_) (a' := ?_) rfl rfl (by kernel_rfl) (fun _ _ _ h => hP _ _ _ _ _ h) (by rfl) ?_ ?_ ?_
  rotate_left
  · intro w'; go_simp; with_reducible rfl
  rotate_left
  · simp only [Act.put, n1, n2, n3]; rfl
  refine pu 47 281474976710655 (N := some 122) (v := ?_) (a' := ?_) rfl rfl (by kernel_rfl) (fun _ _ _ h => hP _ _ _ _ _ h) (by rfl) ?_ ?_ ?_
  rotate_left
  · intro w'; go_simp; with_reducible rfl
  rotate_left
  · simp only [Act.put, n1, n2, n3]; rfl
  refine pu 48 562949953421311 (N := some 123) (v := ?_) (a' := ?_) rfl rfl (by kernel_rfl) (fun _ _ _ h => hP _ _ _ _ _ h) (by rfl) ?_ ?_ ?_
  rotate_left
  · intro w'; go_simp; with_reducible rfl
  rotate_left
  · simp only [Act.put, n1, n2, n3]; rfl
  refine tk 49 1125899906842623 (N := some 124) (v := ?_) (a' := ?_) rfl rfl (by kernel_rfl) (fun _ _ _ h => hP _ _ _ _ _ h) (by rfl) ?_ hHeld ?_ ?_
  rotate_left
  · rintro w' ⟨s0, s1⟩; go_simp; with_reducible rfl
  rotate_left
  · simp only [Act.put, n1, n2, n3]; rfl
  refine pu 50 2251799813685247 (N := some 125) (v := ?_) (a' := ?_) rfl rfl (by kernel_rfl) (fun _ _ _ h => hP _ _ _ _ _ h) (by rfl) ?_ ?_ ?_
  rotate_left
  · intro w'; go_simp; with_reducible rfl
  rotate_left
  · simp only [Act.put, n1, n2, n3]; rfl
  refine pu 51 4503599627370495 (N := some 126) (v := ?_) (a' := ?_) rfl rfl (by kernel_rfl) (fun _ _ _ h => hP _ _ _ _ _ h) (by rfl) ?_ ?_ ?_
  rotate_left
  · intro w'; go_simp; with_reducible rfl
  rotate_left
  · simp only [Act.put, n1, n2, n3]; rfl
  refine po 52 9007199254740991 (N := some 127) (a' := ?_) rfl rfl (by kernel_rfl) (fun _ _ _ h => hP _ _ _ _ _ h) (by rfl) ?_ ?_
  rotate_left
  · simp only [Act.put, n1, n2, n3]; rfl
  refine po 53 18014398509481983 (N := some 128) (a' := ?_) rfl rfl (by kernel_rfl) (fun _ _ _ h => hP _ _ _ _ _ h) (by rfl) ?_ ?_
  rotate_left
  · simp only [Act.put, n1, n2, n3]; rfl
  refine po 54 36028797018963967 (N := some 129) (a' := ?_) rfl rfl (by kernel_rfl) (fun _ _ _ h => hP _ _ _ _ _ h) (by rfl) ?_ ?_
  rotate_left
  · simp only [Act.put, n1, n2, n3]; rfl
  refine po 55 72057594037927935 (N := some 130) (a' := ?_) rfl rfl (by kernel_rfl) (fun _ _ _ h => hP _ _ _ _ _ h) (by rfl) ?_ ?_
  rotate_left
  · simp only [Act.put, n1, n2, n3]; rfl
  refine po 56 144115188075855871 (N := some 131) (a' := ?_) rfl rfl (by kernel_rfl) (fun _ _ _ h => hP _ _ _ _ _ h) (by rfl) ?_ ?_
  rotate_left
  · simp only [Act.put, n1, n2, n3]; rfl
  refine pu 57 288230376151711743 (N := some 132) (v := ?_) (a' := ?_) rfl rfl (by kernel_rfl) (fun _ _ _ h => hP _ _ _ _ _ h) (by rfl) ?_ ?_ ?_
  rotate_left
  · intro w'; go_simp; with_reducible rfl
  rotate_left
  · simp only [Act.put, n1, n2, n3]; rfl
  refine pu 58 576460752303423487 (N := some 133) (v := ?_) (a' := ?_) rfl rfl (by kernel_rfl) (fun _ _ _ h => hP _ _ _ _ _ h) (by rfl) ?_ ?_ ?_
  rotate_left
  · intro w'; go_simp; with_reducible rfl
  rotate_left
  · simp only [Act.put, n1, n2, n3]; rfl
  refine done_ (by kernel_rfl) ?_
  exact HK.out _ _ _ _ _ _ _ _ _ _ _ _ _ _ _ _ _ _ _ _ _ _ _ _ _ _ _ _ _ _ _ _ _ _ _ _ _ _ _ _ _ _ _ _ _ _ _ _ _ _ _ _ _ _ _ _ _ _ _ HG6.out HB6.out HC6.out
end Go.Proofs.Ytkdncanoajbdgaa.HW
