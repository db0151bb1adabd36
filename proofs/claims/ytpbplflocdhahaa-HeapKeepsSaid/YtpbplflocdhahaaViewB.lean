/- view.Make, walked. -/
import Derived.Test.YtpbplflocdhahaaViewA
import Derived.Laws.CopyRow
import Derived.Lib.AppendStr
set_option linter.unusedVariables false
set_option linter.unusedSimpArgs false
namespace Go.Proofs.Ytpbplflocdhahaa.HW
open Go.RowKit Go.Proofs.Ytpbplflocdhahaa.P Go.Proofs.Ytpbplflocdhahaa.HP Go.Proofs.YtpbplflocdhahaaW.PrintWords Go.Proofs.YtpbplflocdhahaaW.PrintLast Go.Proofs.YtpbplflocdhahaaW.PrintMore
attribute [local go_sem] max2_int min2_int max_two min_two max_three min_three max_four min_four
def z16 : List Int := List.replicate 16 0
def setAt (a : List Int) (o : Nat) (l : List Int) : List Int := a.take o ++ l ++ a.drop (o + l.length)
theorem setAt_len (a : List Int) (o : Nat) (l : List Int) (h : o + l.length ≤ a.length) : (setAt a o l).length = a.length := by unfold setAt; simp; omega
theorem cel_one (a : List Int) : (cel a).all (·.oneCell') = true := by
  rw [Array.all_eq_true_iff_forall_mem]
  intro v hv
  simp [cel] at hv
  obtain ⟨x, _, rfl⟩ := hv
  rfl
theorem zero16 : ∀ W : World, (zeroValue 28).run Try.prog W = .ok (.agg (cel z16)) W := by
  intro W
  kernel_rfl
theorem strCells_b (s : ByteArray) : Go.Lib.strCells s = (bytesOf s).map (Value.int .u8) := by
  unfold Go.Lib.strCells bytesOf
  rw [List.map_map]
  rfl
theorem bytes_len (s : ByteArray) : (bytesOf s).length = s.size := by
  simp [bytesOf]
theorem copy_str (w : World) (g o dLen dCap t ty : Nat) (a : List Int) (s : ByteArray) (hg : w.heap[g]? = some (.cells (cel a) t (0, 0))) (hfit : o + s.size ≤ a.length) (hn : s.size ≤ dLen) :
    (Builtin.copy_ #[36, 9] ty #[.slice (some ⟨g, o, none⟩) dLen dCap, .string s]).run Try.prog w = .ok (.int .i64 (s.size : Int)) (w.setRow g (cel (setAt a o (bytesOf s)))) := by
  have hl := Go.Lib.run_firstCells_string (P := Try.prog) w 1 s
  have hst := run_storeCells_at Try.prog g o t (Go.Lib.strCells s) 0 (cel a) w hg (by rw [Go.Lib.strCells_length, cel_size]; omega) (Go.Lib.strCells_oneCell s)
  have e : ((cel a).toList.take (o + 0) ++ Go.Lib.strCells s ++ (cel a).toList.drop (o + 0 + (Go.Lib.strCells s).length)).toArray = cel (setAt a o (bytesOf s)) := by
    rw [strCells_b]
    simp [cel, setAt, List.map_take, List.map_drop]
  rw [e] at hst
  have hm : Nat.min s.size dLen = s.size := Nat.min_eq_left hn
  have hu := Try.underlying36
  have hi : (Try.prog.info? 5).map (·.size) = some 1 := by kernel_rfl
  cases hq : Try.prog.info? 5 with
  | none => simp [hq] at hi
  | some i =>
    have his : i.size = 1 := by simpa [hq] using hi
    simp [Builtin.copy_, run_underlying hu, Builtin.lenOf, sizeOf, typeInfo, hq, his, hm, hl, hst, goInt]
theorem heap_row {w : World} {g k : Nat} {c : Array Value} (hk : k ≠ g) : (w.setRow g c).heap[k]? = w.heap[k]? := by
  unfold World.setRow
  simp only
  rw [Array.getElem?_modify]
  rw [if_neg (fun e => hk e.symm)]
theorem size_row {w : World} {g : Nat} {c : Array Value} : (w.setRow g c).heap.size = w.heap.size := by simp [World.setRow]
theorem keep_row {w W : World} {g : Nat} (h : KeepBut w W g none) (c : Array Value) : KeepBut w (W.setRow g c) g none :=
  ⟨by rw [size_row]; exact h.1, fun k hk hne hn => (heap_row hne).trans (h.2 k hk hne hn)⟩
theorem below_row {w W : World} {B g : Nat} (h : Below B w W) (hg : B ≤ g) (c : Array Value) : Below B w (W.setRow g c) :=
  ⟨h.os, h.tape, h.output, by rw [size_row]; exact h.size, fun k hk => (heap_row (by omega)).trans (h.block k hk)⟩
theorem below_keep {w W W' : World} {B g : Nat} (h : Below B w W) (hk : KeepBut W W' g none) (ho : W'.os = W.os ∧ W'.tape = W.tape ∧ W'.output = W.output) (hg : B ≤ g) (hB : B ≤ W.heap.size) : Below B w W' :=
  ⟨ho.1.trans h.os, ho.2.1.trans h.tape, ho.2.2.trans h.output, Nat.le_trans h.size hk.1, fun k hk2 => (hk.2 k (by omega) (by omega) (by simp)).trans (h.block k hk2)⟩
def placedB (buf at_ : Int) : Bool := decide (0 ≤ buf ∧ buf ≤ 65535 ∧ 0 ≤ at_ ∧ at_ ≤ 65536)
theorem placed_f (buf at_ : Int) : view_placed.f buf at_ = some (placedB buf at_) := by
  unfold view_placed.f placedB
  by_cases h1 : buf ≥ 0
  · by_cases h2 : buf ≤ 65535
    · by_cases h3 : at_ ≥ 0
      · rw [if_pos h1, if_pos h2, if_pos h3]
        congr 1
        exact decide_eq_decide.2 ⟨fun h => ⟨h1, h2, h3, h⟩, fun h => h.2.2.2⟩
      · rw [if_pos h1, if_pos h2, if_neg h3, decide_eq_false (fun h => h3 h.2.2.1)]
    · rw [if_pos h1, if_neg h2, decide_eq_false (fun h => h2 h.2.1)]
  · rw [if_neg h1, decide_eq_false (fun h => h1 h.1)]
set_option maxHeartbeats 8000000 in
set_option maxRecDepth 100000 in
theorem view_Make.bad1 (s : ByteArray) (buf at_ : Int) (w : World) (h : 4096 < s.size) : Calls Try.prog 25 #[.string s, .int .i64 buf, .int .i64 at_] w fun e w' => e = .returned (.tuple #[.agg (cel z16), .int .i64 1]) ∧ Below w.heap.size w w' := by
  have t1 : decide ((4096 : Int) < (s.size : Int)) = true := decide_eq_true (by omega)
  have t2 : decide (4096 < s.size) = true := decide_eq_true h
  clear h
  obtain ⟨Z, hZ⟩ : ∃ Z, Z = cel z16 := ⟨_, rfl⟩
  have HZ := Aside0.mk hZ
  have hz := zero16
  rw [← hZ] at hz ⊢
  have HSZ : Aside0 (Z.size = 16) := ⟨by rw [hZ]; rfl⟩
  have H1C : Aside0 (Z.all (·.oneCell') = true) := ⟨by rw [hZ]; exact cel_one _⟩
  clear hZ
  have HG0 : Aside0 (((w.alloc (.cells Z 28)).alloc (.cells Z 28)).heap[w.heap.size]? = some (.cells Z 28 (0, 0))) := ⟨((below_alloc (Below.refl _ (w.alloc (.cells Z 28))) (.cells Z 28)).block _ (blk_lt (blk_new w _))).trans (blk_new w _)⟩
  have HG1 : Aside0 (((w.alloc (.cells Z 28)).alloc (.cells Z 28)).heap[w.heap.size + 1]? = some (.cells Z 28 (0, 0))) := ⟨by have := blk_new (w.alloc (.cells Z 28)) (.cells Z 28); rwa [show (w.alloc (.cells Z 28)).heap.size = w.heap.size + 1 by simp] at this⟩
  have HB := Aside0.mk (below_alloc (below_alloc (Below.refl w.heap.size w) (.cells Z 28)) (.cells Z 28))
  go_enter Try.func25, Try.ntmps25
  go_wp2_with (first | ((with_reducible refine gate_dst (N := 23) rfl ?_); refine wpList_load_row rfl 28 _ rfl (w.heap.size + 1) (by rfl) 28 Z (0, 0) _ HG1.out Try.underlying28 rfl (by rw [info16, HSZ.out]) ?_) | ((with_reducible refine gate_store (t := 28) (p := 6) rfl ?_); refine wpList_store_row rfl 28 _ _ rfl w.heap.size Z (by rfl) (by rfl) 28 Z HG0.out (by rw [info16, HSZ.out]) (HSZ.out.trans HSZ.out.symm) H1C.out ?_))
  (try simp only [Exit.inBlock, Exit.then])
  refine bodyPost_ret (results_ct (p := 6) (u := 7) rfl _ _ w.heap.size 28 Z (0, 0) _ ?hp (setRow_heap _ _ _ _ _ _ HG0.out) Try.underlying28 rfl (by rw [info16, HSZ.out])) ?hd ?_
  case hp => rfl
  case hd => rfl
  exact ⟨rfl, below_row HB.out (Nat.le_refl _) _⟩
set_option maxHeartbeats 8000000 in
set_option maxRecDepth 100000 in
theorem view_Make.bad2 (s : ByteArray) (buf at_ : Int) (w : World) (h : 12 < s.size) (h2 : s.size ≤ 4096) (hp : placedB buf at_ = false) : Calls Try.prog 25 #[.string s, .int .i64 buf, .int .i64 at_] w fun e w' => e = .returned (.tuple #[.agg (cel z16), .int .i64 1]) ∧ Below w.heap.size w w' := by
  have t1 : decide ((4096 : Int) < (s.size : Int)) = false := decide_eq_false (by omega)
  have t2 : decide (4096 < s.size) = false := decide_eq_false (by omega)
  have t3 : decide ((12 : Int) < (s.size : Int)) = true := decide_eq_true (by omega)
  have t4 : decide (12 < s.size) = true := decide_eq_true h
  have hpf := placed_f buf at_
  rw [hp] at hpf
  have HPF := Aside0.mk hpf
  clear h h2 hp hpf
  obtain ⟨Z, hZ⟩ : ∃ Z, Z = cel z16 := ⟨_, rfl⟩
  have HZ := Aside0.mk hZ
  have hz := zero16
  rw [← hZ] at hz ⊢
  have HSZ : Aside0 (Z.size = 16) := ⟨by rw [hZ]; rfl⟩
  have H1C : Aside0 (Z.all (·.oneCell') = true) := ⟨by rw [hZ]; exact cel_one _⟩
  clear hZ
  have HG0 : Aside0 (((w.alloc (.cells Z 28)).alloc (.cells Z 28)).heap[w.heap.size]? = some (.cells Z 28 (0, 0))) := ⟨((below_alloc (Below.refl _ (w.alloc (.cells Z 28))) (.cells Z 28)).block _ (blk_lt (blk_new w _))).trans (blk_new w _)⟩
  have HG1 : Aside0 (((w.alloc (.cells Z 28)).alloc (.cells Z 28)).heap[w.heap.size + 1]? = some (.cells Z 28 (0, 0))) := ⟨by have := blk_new (w.alloc (.cells Z 28)) (.cells Z 28); rwa [show (w.alloc (.cells Z 28)).heap.size = w.heap.size + 1 by simp] at this⟩
  have HB := Aside0.mk (below_alloc (below_alloc (Below.refl w.heap.size w) (.cells Z 28)) (.cells Z 28))
  go_enter Try.func25, Try.ntmps25
  go_wp2_with fail
  refine (view_placed.calls buf at_ false _ HPF.out).mono ?_
  rintro e w1 ⟨rfl, n1, rfl⟩
  go_wp2_with (first | ((with_reducible refine gate_dst (N := 23) rfl ?_); refine wpList_load_row rfl 28 _ rfl (w.heap.size + 1) (by rfl) 28 Z (0, 0) _ HG1.out Try.underlying28 rfl (by rw [info16, HSZ.out]) ?_) | ((with_reducible refine gate_store (t := 28) (p := 6) rfl ?_); refine wpList_store_row rfl 28 _ _ rfl w.heap.size Z (by rfl) (by rfl) 28 Z HG0.out (by rw [info16, HSZ.out]) (HSZ.out.trans HSZ.out.symm) H1C.out ?_))
  (try simp only [Exit.inBlock, Exit.then])
  refine bodyPost_ret (results_ct (p := 6) (u := 7) rfl _ _ w.heap.size 28 Z (0, 0) _ ?hp (setRow_heap _ _ _ _ _ _ HG0.out) Try.underlying28 rfl (by rw [info16, HSZ.out])) ?hd ?_
  case hp => rfl
  case hd => rfl
  exact ⟨rfl, below_row (pw_below_drewN HB.out n1) (Nat.le_refl _) _⟩
set_option maxHeartbeats 8000000 in
set_option maxRecDepth 100000 in
theorem view_Make.short (s : ByteArray) (buf at_ : Int) (w : World) (h : s.size ≤ 12) : Calls Try.prog 25 #[.string s, .int .i64 buf, .int .i64 at_] w fun e w' => e = .returned (.tuple #[.agg (cel (setAt (put4 z16 0 (s.size : Int) 4) 4 (bytesOf s))), .int .i64 0]) ∧ Below w.heap.size w w' := by
  have t1 : decide ((4096 : Int) < (s.size : Int)) = false := decide_eq_false (by omega)
  have t2 : decide (4096 < s.size) = false := decide_eq_false (by omega)
  have t3 : decide ((12 : Int) < (s.size : Int)) = false := decide_eq_false (by omega)
  have t4 : decide (12 < s.size) = false := decide_eq_false (by omega)
  have t5 : decide ((s.size : Int) ≤ 12) = true := decide_eq_true (by omega)
  have t6 : decide (s.size ≤ 12) = true := decide_eq_true h
  have HS := Aside0.mk h
  clear h
  obtain ⟨v1, hv1⟩ : ∃ v1, v1 = put4 z16 0 (s.size : Int) 4 := ⟨_, rfl⟩
  have HV1 : Aside0 (v1.length = 16) := ⟨by rw [hv1, put4_len]; rfl⟩
  obtain ⟨C2, hC2⟩ : ∃ C2, C2 = cel (setAt v1 4 (bytesOf s)) := ⟨_, rfl⟩
  rw [← hv1, ← hC2]
  have HV1e := Aside0.mk hv1
  have HC2 := Aside0.mk hC2
  have HS2 : Aside0 (C2.size = 16) := ⟨by rw [hC2, cel_size, setAt_len _ _ _ (by rw [bytes_len]; have := HV1.out; have := HS.out; omega)]; exact HV1.out⟩
  have H2C : Aside0 (C2.all (·.oneCell') = true) := ⟨by rw [hC2]; exact cel_one _⟩
  clear hv1 hC2
  obtain ⟨Z, hZ⟩ : ∃ Z, Z = cel z16 := ⟨_, rfl⟩
  have HZ := Aside0.mk hZ
  have hz := zero16
  rw [← hZ] at hz
  have HSZ : Aside0 (Z.size = 16) := ⟨by rw [hZ]; rfl⟩
  have H1C : Aside0 (Z.all (·.oneCell') = true) := ⟨by rw [hZ]; exact cel_one _⟩
  clear hZ
  have HG0 : Aside0 (((w.alloc (.cells Z 28)).alloc (.cells Z 28)).heap[w.heap.size]? = some (.cells Z 28 (0, 0))) := ⟨((below_alloc (Below.refl _ (w.alloc (.cells Z 28))) (.cells Z 28)).block _ (blk_lt (blk_new w _))).trans (blk_new w _)⟩
  have HG1 : Aside0 (((w.alloc (.cells Z 28)).alloc (.cells Z 28)).heap[w.heap.size + 1]? = some (.cells Z 28 (0, 0))) := ⟨by have := blk_new (w.alloc (.cells Z 28)) (.cells Z 28); rwa [show (w.alloc (.cells Z 28)).heap.size = w.heap.size + 1 by simp] at this⟩
  have HB := Aside0.mk (below_alloc (below_alloc (Below.refl w.heap.size w) (.cells Z 28)) (.cells Z 28))
  go_enter Try.func25, Try.ntmps25
  go_wp2_with fail
  refine (view_put_at (w.heap.size + 1) 0 16 16 28 z16 (s.size : Int) _ (by rw [← HZ.out]; exact HG1.out) (by decide) (by omega)).mono ?_
  rintro e w1 ⟨rfl, hh, hb⟩
  have HH1 := Aside0.mk hh
  have HG01 := Aside0.mk ((hb.block w.heap.size (by omega)).trans HG0.out)
  have HB1 := Aside0.mk (HB.out.trans (hb.mono (by omega)))
  clear hh hb HG0 HG1 HB
  rw [← HV1e.out] at HH1
  have hcp := copy_str w1 (w.heap.size + 1) 4 12 12 28 3 v1 s HH1.out (by have := HV1.out; have := HS.out; omega) HS.out
  rw [← HC2.out] at hcp
  go_wp2_with (first | ((with_reducible refine gate_dst (N := 34) rfl ?_); refine wpList_load_row rfl 28 _ rfl (w.heap.size + 1) (by rfl) 28 C2 (0, 0) _ (setRow_heap _ _ _ _ _ _ HH1.out) Try.underlying28 rfl (by rw [info16, HS2.out]) ?_) | ((with_reducible refine gate_store (t := 28) (p := 6) rfl ?_); refine wpList_store_row rfl 28 _ _ rfl w.heap.size C2 (by rfl) (by rfl) 28 Z ((heap_row (by omega)).trans HG01.out) (by rw [info16, HS2.out]) (HSZ.out.trans HS2.out.symm) H2C.out ?_))
  (try simp only [Exit.inBlock, Exit.then])
  refine bodyPost_ret (results_ct (p := 6) (u := 7) rfl _ _ w.heap.size 28 C2 (0, 0) _ ?hp (setRow_heap _ _ _ _ _ _ ((heap_row (by omega)).trans HG01.out)) Try.underlying28 rfl (by rw [info16, HS2.out])) ?hd ?_
  case hp => rfl
  case hd => rfl
  exact ⟨rfl, below_row (below_row HB1.out (by omega) _) (Nat.le_refl _) _⟩
set_option maxHeartbeats 8000000 in
set_option maxRecDepth 100000 in
theorem view_Make.long (s : ByteArray) (buf at_ : Int) (w : World) (h : 12 < s.size) (h2 : s.size ≤ 4096) (hp : placedB buf at_ = true) : Calls Try.prog 25 #[.string s, .int .i64 buf, .int .i64 at_] w fun e w' => e = .returned (.tuple #[.agg (cel (put4 (put4 (setAt (put4 z16 0 (s.size : Int) 4) 4 ((bytesOf s).take 4)) 8 buf 4) 12 at_ 4)), .int .i64 0]) ∧ Below w.heap.size w w' := by
  have t1 : decide ((4096 : Int) < (s.size : Int)) = false := decide_eq_false (by omega)
  have t2 : decide (4096 < s.size) = false := decide_eq_false (by omega)
  have t3 : decide ((12 : Int) < (s.size : Int)) = true := decide_eq_true (by omega)
  have t4 : decide (12 < s.size) = true := decide_eq_true h
  have t5 : decide ((s.size : Int) ≤ 12) = false := decide_eq_false (by omega)
  have t6 : decide (s.size ≤ 12) = false := decide_eq_false (by omega)
  have hpf := placed_f buf at_
  rw [hp] at hpf
  have HPF := Aside0.mk hpf
  have HS := Aside0.mk h
  have hs4 : (4 ≤ s.size) = True := eq_true (by omega)
  have hs5 : ((4 : Int) ≤ (s.size : Int)) = True := eq_true (by omega)
  clear h h2 hp hpf
  obtain ⟨s4, hs4e⟩ : ∃ s4, s4 = s.extract 0 4 := ⟨_, rfl⟩
  have hs4z : s4.size = 4 := by rw [hs4e]; have := HS.out; simp; omega
  have hs4b : bytesOf s4 = (bytesOf s).take 4 := by rw [hs4e]; simp [bytesOf, List.map_take]
  rw [← hs4b]
  obtain ⟨v1, hv1⟩ : ∃ v1, v1 = put4 z16 0 (s.size : Int) 4 := ⟨_, rfl⟩
  have HV1 : Aside0 (v1.length = 16) := ⟨by rw [hv1, put4_len]; rfl⟩
  obtain ⟨v2, hv2⟩ : ∃ v2, v2 = setAt v1 4 (bytesOf s4) := ⟨_, rfl⟩
  have HV2 : Aside0 (v2.length = 16) := ⟨by rw [hv2, setAt_len _ _ _ (by rw [bytes_len]; have := HV1.out; omega)]; exact HV1.out⟩
  obtain ⟨v3, hv3⟩ : ∃ v3, v3 = put4 v2 8 buf 4 := ⟨_, rfl⟩
  have HV3 : Aside0 (v3.length = 16) := ⟨by rw [hv3, put4_len]; exact HV2.out⟩
  obtain ⟨C2, hC2⟩ : ∃ C2, C2 = cel (put4 v3 12 at_ 4) := ⟨_, rfl⟩
  rw [← hv1, ← hv2, ← hv3, ← hC2]
  have HV1e := Aside0.mk hv1
  have HV2e := Aside0.mk hv2
  have HV3e := Aside0.mk hv3
  have HC2 := Aside0.mk hC2
  have HS2 : Aside0 (C2.size = 16) := ⟨by rw [hC2, cel_size, put4_len]; exact HV3.out⟩
  have H2C : Aside0 (C2.all (·.oneCell') = true) := ⟨by rw [hC2]; exact cel_one _⟩
  have HS4 := Aside0.mk hs4z
  clear hv1 hv2 hv3 hC2 hs4b hs4z
  obtain ⟨Z, hZ⟩ : ∃ Z, Z = cel z16 := ⟨_, rfl⟩
  have HZ := Aside0.mk hZ
  have hz := zero16
  rw [← hZ] at hz
  have HSZ : Aside0 (Z.size = 16) := ⟨by rw [hZ]; rfl⟩
  have H1C : Aside0 (Z.all (·.oneCell') = true) := ⟨by rw [hZ]; exact cel_one _⟩
  clear hZ
  have HG0 : Aside0 (((w.alloc (.cells Z 28)).alloc (.cells Z 28)).heap[w.heap.size]? = some (.cells Z 28 (0, 0))) := ⟨((below_alloc (Below.refl _ (w.alloc (.cells Z 28))) (.cells Z 28)).block _ (blk_lt (blk_new w _))).trans (blk_new w _)⟩
  have HG1 : Aside0 (((w.alloc (.cells Z 28)).alloc (.cells Z 28)).heap[w.heap.size + 1]? = some (.cells Z 28 (0, 0))) := ⟨by have := blk_new (w.alloc (.cells Z 28)) (.cells Z 28); rwa [show (w.alloc (.cells Z 28)).heap.size = w.heap.size + 1 by simp] at this⟩
  have HB := Aside0.mk (below_alloc (below_alloc (Below.refl w.heap.size w) (.cells Z 28)) (.cells Z 28))
  go_enter Try.func25, Try.ntmps25
  go_wp2_with fail
  refine (view_placed.calls buf at_ true _ HPF.out).mono ?_
  rintro e w0 ⟨rfl, n1, rfl⟩
  go_wp2_with fail
  refine (view_put_at (w.heap.size + 1) 0 16 16 28 z16 (s.size : Int) _ (by rw [← HZ.out]; exact HG1.out) (by decide) (by omega)).mono ?_
  rintro e w1 ⟨rfl, hh, hb⟩
  have HH1 := Aside0.mk hh
  have HG01 := Aside0.mk ((hb.block w.heap.size (by omega)).trans HG0.out)
  have HB1 := Aside0.mk ((pw_below_drewN HB.out n1).trans (hb.mono (by omega)))
  clear hh hb HG0 HG1 HB
  rw [← HV1e.out] at HH1
  have hcp := copy_str w1.drew (w.heap.size + 1) 4 12 12 28 3 v1 s4 HH1.out (by have := HV1.out; have := HS4.out; omega) (by have := HS4.out; omega)
  rw [← HV2e.out, HS4.out] at hcp
  rw [hs4e] at hcp
  go_wp2_with fail
  refine start_ (n := 4) (S := fun w' => True) (ds := []) #[false, false, false, false] (by kernel_rfl) rfl rfl trivial (fun hHeld => ?_)
  refine pure_ (i := 0) (N := some 35) (v := ?_) (a' := ?_) #[true, false, false, false] rfl rfl (by kernel_rfl) (fun _ _ _ h => h) (Or.inl ⟨by rfl, ?_⟩) ?_ ?_
  rotate_left
  · intro w'
    go_simp
    with_reducible rfl
  rotate_left
  · simp only [Act.put, List.setIfInBounds_toArray, List.set_cons_zero, List.set_cons_succ, i64_w, i32_w]
    rfl
  refine pure_ (i := 1) (N := some 36) (v := ?_) (a' := ?_) #[true, true, false, false] rfl rfl (by kernel_rfl) (fun _ _ _ h => h) (Or.inl ⟨by rfl, ?_⟩) ?_ ?_
  rotate_left
  · intro w'
    go_simp
    with_reducible rfl
  rotate_left
  · simp only [Act.put, List.setIfInBounds_toArray, List.set_cons_zero, List.set_cons_succ, i64_w, i32_w]
    rfl
  refine pure_ (i := 2) (N := some 37) (v := ?_) (a' := ?_) #[true, true, true, false] rfl rfl (by kernel_rfl) (fun _ _ _ h => h) (Or.inl ⟨by rfl, ?_⟩) ?_ ?_
  rotate_left
  · intro w'
    go_simp
    with_reducible rfl
  rotate_left
  · simp only [Act.put, List.setIfInBounds_toArray, List.set_cons_zero, List.set_cons_succ, i64_w, i32_w]
    rfl
  refine one_ (i := 3) (N := some 38) #[true, true, true, true] rfl rfl (by kernel_rfl) (by decide) (fun K hK => ?_)
  refine value_ (w1 := ?_) (v := ?_) (by rfl) rfl ?_ ?_
  rotate_left 2
  · go_simp
    constructor
    · rfl
    · rfl
  refine hK.out _ _ trivial (fun hHeld => ?_)
  clear hK K
  refine norm_ (a' := ?_) ?_ ?_
  rotate_left
  · show Act.put _ (some 38) _ = _
    simp only [Act.put, List.setIfInBounds_toArray, List.set_cons_zero, List.set_cons_succ, i64_w, i32_w]
    rfl
  refine done_ (by kernel_rfl) ?_
  go_wp2_with fail
  have HH2 := Aside0.mk (setRow_heap w1.drew (w.heap.size + 1) (cel v1) (cel v2) _ _ HH1.out)
  have HG02 : Aside0 ((w1.drew.setRow (w.heap.size + 1) (cel v2)).heap[w.heap.size]? = some (.cells Z 28 (0, 0))) := ⟨(heap_row (by omega)).trans HG01.out⟩
  have HB2 := Aside0.mk (below_row (below_drew1 HB1.out) (show w.heap.size ≤ w.heap.size + 1 by omega) (cel v2))
  clear HH1 HG01 HB1 hcp
  refine (view_put_at (w.heap.size + 1) 8 8 8 28 v2 buf _ HH2.out (by have := HV2.out; omega) (by omega)).mono ?_
  rintro e w3 ⟨rfl, hh, hb⟩
  rw [← HV3e.out] at hh
  have HH3 := Aside0.mk hh
  have HG03 := Aside0.mk ((hb.block w.heap.size (by omega)).trans HG02.out)
  have HB3 := Aside0.mk (HB2.out.trans (hb.mono (by omega)))
  clear hh hb HH2 HG02 HB2
  go_wp2_with fail
  refine (view_put_at (w.heap.size + 1) 12 4 4 28 v3 at_ _ HH3.out (by have := HV3.out; omega) (by omega)).mono ?_
  rintro e w4 ⟨rfl, hh, hb⟩
  rw [← HC2.out] at hh
  have HH4 := Aside0.mk hh
  have HG04 := Aside0.mk ((hb.block w.heap.size (by omega)).trans HG03.out)
  have HB4 := Aside0.mk (HB3.out.trans (hb.mono (by omega)))
  clear hh hb HH3 HG03 HB3
  go_wp2_with (first | ((with_reducible refine gate_dst (N := 45) rfl ?_); refine wpList_load_row rfl 28 _ rfl (w.heap.size + 1) (by rfl) 28 C2 (0, 0) _ HH4.out Try.underlying28 rfl (by rw [info16, HS2.out]) ?_) | ((with_reducible refine gate_store (t := 28) (p := 6) rfl ?_); refine wpList_store_row rfl 28 _ _ rfl w.heap.size C2 (by rfl) (by rfl) 28 Z HG04.out (by rw [info16, HS2.out]) (HSZ.out.trans HS2.out.symm) H2C.out ?_))
  (try simp only [Exit.inBlock, Exit.then])
  refine bodyPost_ret (results_ct (p := 6) (u := 7) rfl _ _ w.heap.size 28 C2 (0, 0) _ ?hp (setRow_heap _ _ _ _ _ _ HG04.out) Try.underlying28 rfl (by rw [info16, HS2.out])) ?hd ?_
  case hp => rfl
  case hd => rfl
  exact ⟨rfl, below_row HB4.out (Nat.le_refl _) _⟩
end Go.Proofs.Ytpbplflocdhahaa.HW
