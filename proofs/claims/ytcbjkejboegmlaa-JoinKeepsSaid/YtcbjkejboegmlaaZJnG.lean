import Derived.Test.YtcbjkejboegmlaaZJnN
import Derived.Test.YtcbjkejboegmlaaZPx2
import Derived.Maps.GroupsBeside
/- A map of groups of numbers; join.keys, plain. -/
set_option linter.unusedVariables false
set_option linter.unusedSimpArgs false
namespace Go.Proofs.Ytcbjkejboegmlaa.HW
open Go.RowKit Go.Proofs.Ytcbjkejboegmlaa.P Go.Proofs.Ytcbjkejboegmlaa.HP Go.Proofs.YtcbjkejboegmlaaW.PrintWords Go.Proofs.YtcbjkejboegmlaaW.PrintLast Go.Proofs.YtcbjkejboegmlaaW.PrintMore
attribute [local go_sem] max2_int min2_int max_two min_two max_three min_three max_four min_four
open Go.Maps Go.WideElems Go.MapKept Go.ChangeMaps Go.ChangeShapes
theorem zeroS (w : World) : (zeroValue 23).run Try.prog w = .ok (.slice none 0 0) w := by kernel_rfl
theorem lawI : Keyed Try.prog 3 := int_keyed Try.underlying3
/-- What is looked up in a map is alike in every world that has the map. -/
theorem look_any {H : Type} {P : Program} {k t E : TypeId} {R : Value → Option (DataW H × List MemPlace)} {es : Array MapEntry} {clock : Nat} {key : Value} {kl : Lit} {z : Value} (K : Keyed P k) (ht : P.underlying t = some (.map k E)) (hz : ∀ W, (zeroValue E).run P W = .ok z W) (F : Fit P k R es clock) (hkey : keyOf P k key = some kl) :
    ∃ v, ∀ (W : World) (b : Nat), W.heap[b]? = some (.map es clock) → (Instr.lookup t (.map (some b)) key false).run P W = .ok v W := by
  have hn : es.toList.Pairwise (fun x y => x.key ≠ y.key) := ((stamped_iff es clock).1 F.stamped).2.2
  by_cases h : ∃ (j : Nat) (e : MapEntry), es.toList[j]? = some e ∧ e.key = key
  · obtain ⟨j, e, hj, he⟩ := h
    refine ⟨e.val, fun W b hb => ?_⟩
    rcases K.find W hkey es.toList F.keys with ⟨h1, h2⟩ | ⟨j2, e2, h1, h2, h3⟩
    · exact absurd he (h2 e (List.mem_of_getElem? hj))
    · have hjj : j2 = j := by
        obtain ⟨l1, g1⟩ := List.getElem?_eq_some_iff.1 hj
        obtain ⟨l2, g2⟩ := List.getElem?_eq_some_iff.1 h2
        rcases Nat.lt_trichotomy j2 j with hlt | heq | hgt
        · exact absurd (by rw [g1, g2, h3, he]) (List.pairwise_iff_getElem.1 hn j2 j l2 l1 hlt)
        · exact heq
        · exact absurd (by rw [g1, g2, h3, he]) (List.pairwise_iff_getElem.1 hn j j2 l1 l2 hgt)
      subst hjj
      rw [hj] at h2
      cases h2
      simp [Instr.lookup, run_underlying ht, MapKept.run_getObj_map hb, K.check W _ hkey, h1, Result.andThen]
  · refine ⟨z, fun W b hb => ?_⟩
    rcases K.find W hkey es.toList F.keys with ⟨h1, h2⟩ | ⟨j2, e2, h1, h2, h3⟩
    · simp [Instr.lookup, run_underlying ht, MapKept.run_getObj_map hb, K.check W _ hkey, h1, hz W, Result.andThen]
    · exact absurd ⟨j2, e2, h2, h3⟩ h
def grpD (zs : List Int) : DataW Unit := if zs = [] then .nil else .slice (lits .i64 zs) []
/-- Block b is a map of groups: at each number its list. -/
def Grp (w : World) (b n : Nat) (G : Int → List Int) : Prop :=
  b + 1 ≤ w.heap.size ∧ ∃ D : DataW Unit, w.ownsGroups Try.prog 3 (b + 1) 3 .i64 b n D ∧ ∀ x : Int, (Lit.int .i64 x).wf = true → D.atKey (.int .i64 x) .nil = grpD (G x)
theorem Grp.made (w : World) : Grp (w.alloc (.map #[] 0)) w.heap.size 0 (fun _ => []) :=
  ⟨by simp, _, World.ownsGroups_made w _ _ _ _, fun x _ => rfl⟩
theorem grown_of_below {w w' : World} (hb : Below w.heap.size w w') : w.grownBy w' none := ⟨hb.os, hb.tape, hb.output, hb.size, fun k hk _ => hb.block k hk⟩
theorem Grp.below {w w' : World} {b n : Nat} {G : Int → List Int} (h : Grp w b n G) (hb : Below w.heap.size w w') : Grp w' b n G := by
  obtain ⟨h1, D, ho, hD⟩ := h
  exact ⟨Nat.le_trans h1 hb.size, D, ho.kept (grown_of_below hb) (by simp) (fun _ _ _ x _ => by cases x.val.ownBlock <;> simp), hD⟩
theorem lits_inj {zs ys : List Int} (h : lits (H := Unit) .i64 zs = lits .i64 ys) : zs = ys := by
  unfold lits at h
  exact (List.map_inj_right (fun a b hab => by injection hab with h1; injection h1 with _ h2)).1 h
theorem grp_list {w : World} {b : Nat} {v : Value} {zs ys : List Int} (ho : w.ownsInts b 3 .i64 v zs) (h : grpD ys = rowDatum .i64 v zs) : zs = ys := by
  unfold grpD at h
  rcases ho.datum (H := Unit) with ⟨e1, e2⟩ | e1
  · rw [e1] at h
    by_cases hy : ys = []
    · rw [e2, hy]
    · rw [if_neg hy] at h; cases h
  · rw [e1] at h
    by_cases hy : ys = []
    · rw [if_pos hy] at h; cases h
    · rw [if_neg hy] at h
      injection h with h _
      exact (lits_inj h).symm
/-- The group at a number, and the way back. -/
theorem Grp.look {w : World} {b n : Nat} {G : Int → List Int} (h : Grp w b n G) (x : Int) (hx : (Lit.int .i64 x).wf = true) (hn : n < 1000000) :
    ∃ v : Value, (∀ W : World, W.heap[b]? = w.heap[b]? → (Instr.lookup 51 (.map (some b)) (.int .i64 x) false).run Try.prog W = .ok v W) ∧ w.ownsInts (b + 1) 3 .i64 v (G x) ∧ (G x).length ≤ n ∧
      ∀ (w1 : World) (v' : Value) (i : Int), w.grownBy w1 v.ownBlock → w1.ownsInts (b + 1) 3 .i64 v' (G x ++ [i]) → (v'.ownBlock = v.ownBlock ∨ ∃ g, v'.ownBlock = some g ∧ w.heap.size ≤ g) →
        ∃ w2, (Instr.mapUpdate 51 (.map (some b)) (.int .i64 x) v').run Try.prog w1 = .ok () w2 ∧ Grp w2 b (n + 1) (fun y => if y = x then G x ++ [i] else G y) ∧ w1.grownBy w2 (some b) := by
  obtain ⟨h1, D, ho, hD⟩ := h
  have hkey : keyOf Try.prog 3 (.int .i64 x) = some (.int .i64 x) := keyOf_int_mk Try.underlying3 hx
  have hno : n < maxLen := by unfold maxLen; omega
  obtain ⟨v, zs, hrun, hat, hoi, hzl, hback⟩ := ho.at (t := 51) (E := 23) lawI Try.underlying51 (zeroS w) hno hkey
  have hzs := grp_list hoi ((hD x hx).symm.trans hat)
  subst hzs
  have ho' := ho
  obtain ⟨es, clock, hb, F, _⟩ := ho'
  obtain ⟨v2, hlk⟩ := look_any (t := 51) (E := 23) lawI Try.underlying51 zeroS F hkey
  have hv : v2 = v := by
    have h9 := hlk w b hb
    rw [hrun] at h9
    injection h9 with h9
    exact h9.symm
  subst hv
  refine ⟨v2, fun W hW => hlk W b (hW.trans hb), hoi, hzl, fun w1 v' i hg ho1 hloc => ?_⟩
  obtain ⟨w2, hr2, hown2, hg2⟩ := hback w1 v' _ hg ho1 (by simp; omega) hloc
  refine ⟨w2, hr2, ⟨Nat.le_trans h1 (Nat.le_trans hg.size hg2.size), _, hown2, fun y hy => ?_⟩, hg2⟩
  have hm : IsMap D := by obtain ⟨_, _, _, _, _, e, _⟩ := ho; exact ⟨_, e⟩
  by_cases hyx : y = x
  · subst hyx
    rw [atKey_put_same hm (lawI.key hkey)]
    show rowDatum .i64 v' (G y ++ [i]) = grpD (if y = y then G y ++ [i] else G y)
    rw [if_pos rfl, ho1.datum_pos (by simp)]
    unfold grpD
    rw [if_neg (by simp)]
  · show _ = grpD (if y = x then G x ++ [i] else G y)
    rw [if_neg hyx, atKey_put_other (by intro e; injection e with _ e; exact hyx e)]
    exact hD y hy
theorem keys_in (rows : List Key) (cols : List Int) (row : Key) (acc : List Key) (i : Nat) (R : List Key) (hc : ∀ c ∈ cols, 0 ≤ c ∧ c < (row.length : Int)) (hn : cols.length ≤ 1000) (ha : acc.length ≤ 1000) (hi : i < 1000)
    (hk : Ev (fun k => join_keys.l0 k cols (acc ++ [ofL row cols]) rows (rows.length : Int) ((i + 1 : Nat) : Int)) R) :
    ∀ (d j : Nat) (a : Key), j + d = cols.length → a.length ≤ j → a ++ ofL row (cols.drop j) = ofL row cols → Ev (fun k => join_keys.l1 k cols acc row a rows (rows.length : Int) (i : Int) cols (cols.length : Int) (j : Int)) R := by
  intro d
  induction d with
  | zero =>
    intro j a hj _ he
    refine Ev.step (fun k => by rw [join_keys.l1]) ?_
    have w1 : wrap64 ((i : Int) + 1) = ((i + 1 : Nat) : Int) := wr1 i (by omega)
    rw [List.drop_eq_nil_of_le (by omega)] at he
    simp only [ofL, List.map_nil, List.append_nil] at he
    simp only [if_neg (show ¬ (j : Int) < (cols.length : Int) by omega), if_pos (show acc.length < 5864062014805 by omega), w1]
    rw [he]
    exact hk
  | succ d ih =>
    intro j a hj hal he
    have w1 : wrap64 ((j : Int) + 1) = ((j + 1 : Nat) : Int) := wr1 j (by omega)
    refine Ev.step (fun k => by rw [join_keys.l1]) ?_
    have hil : j < cols.length := by omega
    have hr : rd cols (j : Int) = cols[j] := rd_nat cols j hil
    obtain ⟨h0, h1⟩ := hc cols[j] (List.getElem_mem hil)
    simp only [if_pos (show (j : Int) < (cols.length : Int) by omega), if_pos (show (0 : Int) ≤ (j : Int) by omega), hr, if_pos h0, if_pos h1, if_pos (show a.length < 5864062014805 by omega), w1]
    refine ih (j + 1) (a ++ [rd_T43 row cols[j]]) (by omega) (by simp; omega) ?_
    rw [← he, List.drop_eq_getElem_cons hil]
    unfold ofL
    rw [List.map_cons, List.append_assoc]
    rfl
theorem keys_l (rows : List Key) (cols : List Int) (hc : ∀ row ∈ rows, ∀ c ∈ cols, 0 ≤ c ∧ c < (row.length : Int)) (hn : cols.length ≤ 1000) (hl : rows.length ≤ 1000) : ∀ (d i : Nat) (acc : List Key), i + d = rows.length → acc.length ≤ i →
    Ev (fun k => join_keys.l0 k cols acc rows (rows.length : Int) (i : Int)) (acc ++ (rows.drop i).map (fun row => ofL row cols)) := by
  intro d
  induction d with
  | zero =>
    intro i acc hi _
    refine Ev.step (fun k => by rw [join_keys.l0]) ?_
    simp only [if_neg (show ¬ (i : Int) < (rows.length : Int) by omega)]
    rw [List.drop_eq_nil_of_le (by omega), List.map_nil, List.append_nil]
    exact Ev.now _
  | succ d ih =>
    intro i acc hi ha
    refine Ev.step (fun k => by rw [join_keys.l0]) ?_
    have hil : i < rows.length := by omega
    have hr : rd_L3 rows (i : Int) = rows[i] := by rw [rdL_get]; simp [List.getD_eq_getElem?_getD, hil]
    simp only [if_pos (show (i : Int) < (rows.length : Int) by omega), if_pos (show (0 : Int) ≤ (i : Int) by omega), hr]
    refine keys_in rows cols rows[i] acc i _ (hc _ (List.getElem_mem hil)) hn (by omega) (by omega) ?_ cols.length 0 [] (Nat.zero_add _) (by simp) (by simp)
    have h9 := ih (i + 1) (acc ++ [ofL rows[i] cols]) (by omega) (by simp; omega)
    rw [List.drop_eq_getElem_cons hil, List.map_cons, show acc ++ ofL rows[i] cols :: List.map (fun row => ofL row cols) (List.drop (i + 1) rows) = acc ++ [ofL rows[i] cols] ++ List.map (fun row => ofL row cols) (List.drop (i + 1) rows) by simp]
    exact h9
def keysOf (rows : List Key) (cols : List Int) : List Key := rows.map (fun row => ofL row cols)
theorem keys_f (rows : List Key) (cols : List Int) (hc : ∀ row ∈ rows, ∀ c ∈ cols, 0 ≤ c ∧ c < (row.length : Int)) (hn : cols.length ≤ 1000) (hl : rows.length ≤ 1000) : Ev (fun k => join_keys.f k rows cols) (keysOf rows cols) := by
  unfold join_keys.f
  have h9 := keys_l rows cols hc hn hl _ 0 [] (Nat.zero_add _) (by simp)
  simpa [keysOf] using h9
/-- Which right rows match: their places. -/
def gonek (k : Key) : Bool := k.any (fun x : S43 => x.f0)
def mrow (rs : List Key) (key : Key) : List Int := if gonek key = true then [] else ((List.range rs.length).filter (fun i => decide (rs.getD i [] = key))).map (fun (i : Nat) => (i : Int))
def matchL (ls rs : List Key) : List (List Int) := ls.map (mrow rs)
/-- The groups of the first i right keys, by their numbers. -/
def grpI (nums : List Int) (rs : List Key) (i : Nat) (x : Int) : List Int := ((List.range i).filter (fun j => decide (nums.getD j 0 = x) && !gonek (rs.getD j []))).map (fun (j : Nat) => (j : Int))
theorem grpI_gone {nums : List Int} {rs : List Key} {i : Nat} (h : gonek (rs.getD i []) = true) : grpI nums rs (i + 1) = grpI nums rs i := by
  funext x
  unfold grpI
  rw [List.range_succ, List.filter_append]
  have e : [i].filter (fun j => decide (nums.getD j 0 = x) && !gonek (rs.getD j [])) = [] := by simp only [List.filter_cons, List.filter_nil, h, Bool.not_true, Bool.and_false]; rfl
  rw [e, List.append_nil]
theorem grpI_there {nums : List Int} {rs : List Key} {i : Nat} (h : gonek (rs.getD i []) = false) : (fun y => if y = nums.getD i 0 then grpI nums rs i (nums.getD i 0) ++ [(i : Int)] else grpI nums rs i y) = grpI nums rs (i + 1) := by
  funext x
  unfold grpI
  rw [List.range_succ, List.filter_append, List.map_append]
  by_cases hx : x = nums.getD i 0
  · subst hx
    rw [if_pos rfl]
    have e : [i].filter (fun j => decide (nums.getD j 0 = nums.getD i 0) && !gonek (rs.getD j [])) = [i] := by simp only [List.filter_cons, List.filter_nil, h, decide_true, Bool.not_false, Bool.and_self, if_true]
    rw [e]
    rfl
  · rw [if_neg hx]
    have e : [i].filter (fun j => decide (nums.getD j 0 = x) && !gonek (rs.getD j [])) = [] := by simp only [List.filter_cons, List.filter_nil, decide_eq_false (show ¬ nums.getD i 0 = x from fun e => hx e.symm), Bool.false_and]; rfl
    rw [e]
    simp
/-- A left key's group: the right keys alike. -/
theorem grpI_match {nums : List Int} {rs ls : List Key} {j : Nat} (h : NumsOf (rs ++ ls) nums) (hj : j < ls.length) (hg : gonek (ls.getD j []) = false) : grpI nums rs rs.length (nums.getD (rs.length + j) 0) = mrow rs (ls.getD j []) := by
  obtain ⟨ks, hd, hl, _, hn⟩ := h
  unfold grpI mrow
  rw [if_neg (by rw [hg]; decide)]
  congr 1
  refine List.filter_congr (fun i hi => ?_)
  have hi := List.mem_range.1 hi
  obtain ⟨r1, e1, k1, g1⟩ := hn i (by simp; omega)
  obtain ⟨r2, e2, k2, g2⟩ := hn (rs.length + j) (by simp; omega)
  have ea : (rs ++ ls).getD i [] = rs.getD i [] := by simp only [List.getD_eq_getElem?_getD]; rw [List.getElem?_append_left hi]
  have eb : (rs ++ ls).getD (rs.length + j) [] = ls.getD j [] := by simp only [List.getD_eq_getElem?_getD]; rw [List.getElem?_append_right (by omega), Nat.add_sub_cancel_left]
  rw [ea] at g1
  rw [eb] at g2
  rw [e1, e2, ← g1, ← g2]
  by_cases hr : r1 = r2
  · subst hr
    rw [g2]
    rw [hg]; simp
  · have h1 : ¬ ((r1 : Int) = (r2 : Int)) := by omega
    have h2 : ¬ ks.getD r1 [] = ks.getD r2 [] := by
      rcases Nat.lt_or_ge r1 r2 with h | h
      · exact hd r1 r2 h k2
      · exact fun e => hd r2 r1 (by omega) k1 e.symm
    rw [decide_eq_false h1, decide_eq_false h2, Bool.false_and]
theorem NumsOf.range {keys : List Key} {nums : List Int} (h : NumsOf keys nums) (hk : keys.length ≤ 100000) : nums.length = keys.length ∧ ∀ j, j < keys.length → 0 ≤ nums.getD j 0 ∧ nums.getD j 0 ≤ 100000 := by
  obtain ⟨ks, hd, hl, hks, hn⟩ := h
  refine ⟨hl, fun j hj => ?_⟩
  obtain ⟨r, e, hr, _⟩ := hn j hj
  rw [e]
  omega
theorem ofL_self (key : Key) : ofL key ((List.range key.length).map (fun (i : Nat) => (i : Int))) = key := by
  unfold ofL
  rw [List.map_map]
  apply List.ext_getElem
  · simp
  · intro i h1 h2
    simp [rd_T43, List.getD_eq_getElem?_getD, h2]
end Go.Proofs.Ytcbjkejboegmlaa.HW
