/- Flight: slices.Insert of one load -/
import Derived.Test.YtdmjdpaehnhdoaaDoorLQU
import Derived.Shelf.Spec.SlicesInsert
import Derived.Lib.AppendZerosOnto
import Derived.Laws.CopyRow
import Derived.Laws.CopyOwn
namespace Go.Proofs.YtdmjdpaehnhdoaaDoor
open Go.Shelf Go.ChangeShapes Go.WideShapes Go.ChangeAt Go.RowKit
set_option linter.unusedSimpArgs false
set_option linter.unusedVariables false
theorem flat15_take (os : List EO) (i : Nat) : (os.flatMap row15).take (i * 15) = (os.take i).flatMap row15 := by
  have h : os.flatMap row15 = (os.take i).flatMap row15 ++ (os.drop i).flatMap row15 := by rw [← List.flatMap_append, List.take_append_drop]
  rw [h]
  rcases Nat.le_total i os.length with hi | hi
  · rw [List.take_append_of_le_length (by rw [flat15_len, List.length_take]; omega), List.take_of_length_le (by rw [flat15_len, List.length_take]; omega)]
  · rw [List.drop_of_length_le hi]
    show List.take (i * 15) (_ ++ []) = _
    rw [List.append_nil, List.take_of_length_le (by rw [flat15_len, List.length_take]; omega)]
theorem flat15_drop (os : List EO) (i : Nat) : (os.flatMap row15).drop (i * 15) = (os.drop i).flatMap row15 := by
  have h : os.flatMap row15 = (os.take i).flatMap row15 ++ (os.drop i).flatMap row15 := by rw [← List.flatMap_append, List.take_append_drop]
  rw [h]
  rcases Nat.le_total i os.length with hi | hi
  · have e : i * 15 = ((os.take i).flatMap row15).length := by rw [flat15_len, List.length_take]; omega
    rw [e, List.drop_left]
  · rw [List.drop_of_length_le hi]
    show List.drop (i * 15) (_ ++ []) = []
    rw [List.append_nil, List.drop_of_length_le (by rw [flat15_len, List.length_take]; omega)]
/-- What a row of cells is behind a copy. -/
def lay (L : List Value) (o : Nat) (cs : List Value) : List Value := L.take o ++ cs ++ L.drop (o + cs.length)
theorem lay_len {L : List Value} {o : Nat} {cs : List Value} (h : o + cs.length ≤ L.length) : (lay L o cs).length = L.length := by
  unfold lay; simp only [List.length_append, List.length_take, List.length_drop]; omega
theorem lay_take {L : List Value} {o k : Nat} {cs : List Value} (h : o + cs.length ≤ L.length) (hk : k ≤ o) : (lay L o cs).take k = L.take k := by
  unfold lay
  rw [List.append_assoc, List.take_append_of_le_length (by rw [List.length_take]; omega), List.take_take, Nat.min_eq_left hk]
theorem lay_all {L : List Value} {o k : Nat} {cs : List Value} (h : o + cs.length ≤ L.length) (hk : k = o + cs.length) : (lay L o cs).take k = L.take o ++ cs := by
  unfold lay
  have e : k = (L.take o ++ cs).length := by rw [List.length_append, List.length_take]; omega
  rw [e, List.take_left]
theorem lay_drop {L : List Value} {o k : Nat} {cs : List Value} (h : o + cs.length ≤ L.length) (hk : k = o) : (lay L o cs).drop k = cs ++ L.drop (o + cs.length) := by
  unfold lay
  have e : k = (L.take o).length := by rw [List.length_take]; omega
  rw [List.append_assoc, e, List.drop_left]
/-- Behind a shift, then a row. -/
theorem lay_shift {L xs r : List Value} {p q d : Nat} (hx : L.take q = xs) (hp : p ≤ q) (hd : r.length = d) (hL : q + d ≤ L.length) : (lay (lay L (p + d) (xs.drop p)) p r).length = L.length ∧ (lay (lay L (p + d) (xs.drop p)) p r).take (q + d) = xs.take p ++ r ++ xs.drop p := by
  have hxl : xs.length = q := by rw [← hx, List.length_take]; omega
  have hdl : (xs.drop p).length = q - p := by rw [List.length_drop, hxl]
  have h1 : (lay L (p + d) (xs.drop p)).length = L.length := lay_len (by omega)
  refine ⟨(lay_len (by omega)).trans h1, ?_⟩
  have e1 : (lay L (p + d) (xs.drop p)).take p = xs.take p := by
    rw [lay_take (by omega) (by omega), ← hx, List.take_take, Nat.min_eq_left hp]
  have e2 : (lay L (p + d) (xs.drop p)).drop (p + r.length) = xs.drop p ++ L.drop (p + d + (xs.drop p).length) := lay_drop (by omega) (by omega)
  have e : lay (lay L (p + d) (xs.drop p)) p r = (xs.take p ++ r ++ xs.drop p) ++ L.drop (p + d + (xs.drop p).length) := by
    show (lay L (p + d) (xs.drop p)).take p ++ r ++ (lay L (p + d) (xs.drop p)).drop (p + r.length) = _
    rw [e1, e2]
    simp only [List.append_assoc]
  rw [e]
  have e3 : q + d = (xs.take p ++ r ++ xs.drop p).length := by
    simp only [List.length_append, List.length_take, hdl, hxl, hd]; omega
  rw [e3, List.take_left]
/-- A row, then what stood behind. -/
theorem lay_grow {L xs r : List Value} {p q d : Nat} (hx : L.take p = xs.take p) (hp : p ≤ q) (hxl : xs.length = q) (hd : r.length = d) (hL : q + d ≤ L.length) : (lay (lay L p r) (p + d) (xs.drop p)).length = L.length ∧ (lay (lay L p r) (p + d) (xs.drop p)).take (q + d) = xs.take p ++ r ++ xs.drop p := by
  have hdl : (xs.drop p).length = q - p := by rw [List.length_drop, hxl]
  have h1 : (lay L p r).length = L.length := lay_len (by omega)
  refine ⟨(lay_len (by omega)).trans h1, ?_⟩
  rw [lay_all (by omega) (by omega), lay_all (by omega) (by omega), hx]
theorem run_copy_rowS (w : World) (dT sT ty elem : TypeId) (k g o dLen dCap : Nat) (a : Addr) (sLen sCap : Nat) (cur : List Value) (t : TypeId) (cs : List Value)
    (hu : Tryd.prog.underlying dT = some (.slice elem)) (hs : (Tryd.prog.info? elem).map (·.size) = some k)
    (hg : w.heap[g]? = some (.cells cur.toArray t (0, 0))) (hn : cs.length = Nat.min sLen dLen * k)
    (hsrc : ∀ j v, cs[j]? = some v → w.cell? (a.add j) = some v) (hfit : o + cs.length ≤ cur.length) (h1 : ∀ v ∈ cs, v.oneCell' = true) :
    (Builtin.copy_ #[dT, sT] ty #[.slice (some ⟨g, o, none⟩) dLen dCap, .slice (some a) sLen sCap]).run Tryd.prog w =
      .ok (goInt (Nat.min sLen dLen)) (w.setRow g (lay cur o cs).toArray) := by
  have hl := run_loadCells_list (P := Tryd.prog) w a cs hsrc
  have hst := run_storeCells_at Tryd.prog g o t cs 0 cur.toArray w hg (by simpa using hfit) h1
  cases hq : Tryd.prog.info? elem with
  | none => simp [hq] at hs
  | some i =>
    have hi : i.size = k := by simpa [hq] using hs
    simp [Builtin.copy_, run_underlying hu, Builtin.lenOf, Builtin.firstCells, sizeOf, typeInfo, hq, hi, ← hn, hl, hst, lay]
/-- What is of another kind stays. -/
def Oth (W w' : World) : Prop := ∀ (g : Nat) (t : TypeId) (cur : Array Value), t ≠ 48 → Blk W g t cur → Blk w' g t cur
theorem Oth.refl (W : World) : Oth W W := fun _ _ _ _ h => h
theorem Oth.setRow {W w' : World} {g : Nat} {cur : Array Value} (h : Oth W w') (hb : Blk w' g 48 cur) (cs : Array Value) : Oth W (w'.setRow g cs) := fun g' t cur' ht hg => by
  have h1 := h g' t cur' ht hg
  exact (setRow_other w' g g' cs (h1.ne_ hb ht)).trans h1
theorem Oth.alloc {W w' : World} (h : Oth W w') (o : Obj) : Oth W (w'.alloc o) := fun g' t cur' ht hg => (h g' t cur' ht hg).alloc o
theorem Oth.drew {W w' : World} (h : Oth W w') : Oth W w'.drew := fun g' t cur' ht hg => (h g' t cur' ht hg).drew
theorem blk_setRow {w : World} {g : Nat} {t : TypeId} {cur cur' : Array Value} (hb : Blk w g t cur) : Blk (w.setRow g cur') g t cur' := setRow_heap w g cur cur' t (0, 0) hb
theorem Oth.grown {W w' : World} {base n c : Nat} {A : Option Addr} {xs : List Value} (ho : W.ownsRow base 48 15 (.slice A n c) n xs) (h : W.grownBy w' (Value.ownBlock (.slice A n c))) : Oth W w' := fun g t cur ht hg => by
  refine hg.grown h (fun e => ?_)
  rcases ho.2 with ⟨e1, _⟩ | ⟨g', cap, cur', e1, hb, hh, _⟩
  · rw [e1] at e; cases e
  · rw [e1] at e
    injection e with e
    subst e
    exact hg.ne_ (show Blk W g 48 cur' from hh) ht rfl
/-- What Insert leaves. -/
def InsP (base n : Nat) (os : List EO) (W : World) (en : Ending) (w' : World) : Prop := ∃ A' c', en = .returned (.slice A' (n + 1) c') ∧ w'.ownsRow base 48 15 (.slice A' (n + 1) c') (n + 1) (os.flatMap row15) ∧ Below base W w' ∧ Oth W w'
set_option maxRecDepth 100000 in
set_option maxHeartbeats 8000000 in
theorem ins_end (base n c vb : Nat) (A : Option Addr) (os : List EO) (hm : n ≤ 1000) (ox : EO) (W : World) (hbase : base ≤ W.heap.size) (ho : W.ownsRow base 48 15 (.slice A n c) n (os.flatMap row15)) (hv : Blk W vb 48 (row15 ox).toArray) :
    Calls Tryd.prog 55 #[.slice A n c, .int .i64 (n : Int), .slice (some ⟨vb, 0, none⟩) 1 1] W (InsP base n (os ++ [ox]) W) := by
  obtain ⟨i0, hi0, hz0, hz1, hz2⟩ := info_parts infoE
  have hr : Reads W W.heap.size 15 (some ⟨vb, 0, none⟩) 1 (row15 ox) := ⟨rfl, fun _ => ⟨_, rfl, hv.lt, fun j u hu => by rw [Addr.add_lit, Nat.zero_add, hv.cell]; simpa using hu⟩⟩
  have e1 : (os ++ [ox]).flatMap row15 = os.flatMap row15 ++ row15 ox := by simp
  have hnc : n ≤ c := by obtain ⟨_, _, e, h, _⟩ := own_slice ho; injection e with _ _ e; rw [e]; exact h
  clear hv
  go_enter Tryd.func55, Tryd.ntmps55
  go_wp2_with (at_builtin; refine wpList_append_any _ rfl (.tmp 23) (.tmp 24) 22 rfl base 48 i0 _ 15 184 Tryd.underlying22 hi0 hz0 hz1 hz2 rfl (by omega) (.slice A n c) n (os.flatMap row15) rfl ho W.heap.size _ 1 1 (row15 ox) rfl hr (row15_one _) (by unfold maxLen; omega) (by omega) hbase ?_; intro v4 w4 ho4 hg4 hor4; obtain ⟨A4, c4, rfl, _, _⟩ := own_slice ho4; have hB4 := (Below.refl base W).grown hg4 hbase (fun q hq => own_base ho hq); have hO4 := Oth.grown ho hg4; replace ho4 := Lib.hid ho4; replace hO4 := Lib.hid hO4; clear hg4 hor4)
  all_goals
    go_ret
    exact ⟨A4, c4, rfl, by rw [e1]; exact ho4.out, hB4, hO4.out⟩
set_option maxRecDepth 100000 in
set_option maxHeartbeats 16000000 in
theorem ins_room (base n c vb i g : Nat) (os : List EO) (hm : n ≤ 1000) (hi : i < n) (hroom : n + 1 ≤ c) (ox : EO) (W : World) (ho : W.ownsRow base 48 15 (.slice (some ⟨g, 0, none⟩) n c) n (os.flatMap row15)) (hv : Blk W vb 48 (row15 ox).toArray) (hvb : vb ≠ g) :
    Calls Tryd.prog 55 #[.slice (some ⟨g, 0, none⟩) n c, .int .i64 (i : Int), .slice (some ⟨vb, 0, none⟩) 1 1] W (InsP base n (os.take i ++ ox :: os.drop i) W) := by
  obtain ⟨i0, hi0, hz0, hz1, hz2⟩ := info_parts infoE
  obtain ⟨cur, hbg, hh, hcm, hcs, htk⟩ : ∃ cur : Array Value, base ≤ g ∧ Blk W g 48 cur ∧ c ≤ maxLen ∧ cur.size = c * 15 ∧ cur.toList.take (n * 15) = os.flatMap row15 := by
    rcases ho.2 with ⟨h0, _⟩ | ⟨g', cap, cur, h1, h2, h3, h4, h5, h6, h7⟩
    · cases h0
    · injection h1 with h8 _ h9
      injection h8 with h8
      injection h8 with h8
      subst h8 h9
      exact ⟨cur, h2, h3, h5, h6, h7⟩
  obtain ⟨L, rfl⟩ : ∃ L : List Value, cur = L.toArray := ⟨cur.toList, by simp⟩
  simp only [List.size_toArray] at hcs
  simp only [] at htk
  have hol : os.length = n := by have := ho.1; rw [flat15_len] at this; omega
  have hxl : (os.flatMap row15).length = n * 15 := ho.1
  have hsh : ∀ b (cs : Array Value), Blk W b 48 cs → W.shape? b = some (48, cs.size) := fun b cs h => by
    unfold World.shape?
    rw [show W.heap[b]? = _ from h]
  have hsz : (Tryd.prog.info? 48).map (·.size) = some 15 := by rw [hi0]; simp [hz1]
  obtain ⟨xs, hxs⟩ : ∃ xs, xs = os.flatMap row15 := ⟨_, rfl⟩
  rw [← hxs] at htk hxl
  have hcell : ∀ j v, xs[j]? = some v → W.cell? ⟨g, j, none⟩ = some v := fun j v hj => by
    rw [← htk, List.getElem?_take] at hj
    rw [hh.cell]
    split at hj
    · simpa using hj
    · cases hj
  have h1x : ∀ v ∈ xs, v.oneCell' = true := by rw [hxs]; exact flat15_one os
  obtain ⟨ys, hys⟩ : ∃ ys, ys = xs.drop (i * 15) := ⟨_, rfl⟩
  have hyl : ys.length = (n - i) * 15 := by rw [hys, List.length_drop, hxl]; omega
  have hov : ∀ lb cb, (callFunc 83 #[.slice (some ⟨vb, 0, none⟩) 1 1, .slice (some ⟨g, (i + 1) * 15, none⟩) lb cb]).run Tryd.prog W = .ok (.value (.bool false)) W := fun lb cb => by
    rw [run_callFunc_extern Tryd.func83 (by kernel_rfl) (by kernel_rfl) (by kernel_rfl) (e := Extern.SlicesOverlaps.overlaps #[22, 22] #[4]) (by kernel_rfl),
      Lib.run_overlaps_apart W 22 4 48 rfl 15 Tryd.sizeOf48 ⟨vb, 0, none⟩ ⟨g, (i + 1) * 15, none⟩ 1 1 lb cb hvb 48 48 15 L.toArray.size (hsh vb _ hv) (hsh g _ hh) (by simp only [List.size_toArray]; omega) (hv.frozen _) (hv.frozen _)]
    rfl
  have hcp1 : ∀ ty dc sc, (Builtin.copy_ #[22, 22] ty #[.slice (some ⟨g, (i + 1) * 15, none⟩) (n - i) dc, .slice (some ⟨g, i * 15, none⟩) (n + 1 - i) sc]).run Tryd.prog W.drew = .ok (goInt ((n - i : Nat) : Int)) (W.drew.setRow g (lay L (i * 15 + 15) ys).toArray) := fun ty dc sc => by
    have := run_copy_rowS W.drew 22 22 ty 48 15 g (i * 15 + 15) (n - i) dc ⟨g, i * 15, none⟩ (n + 1 - i) sc L 48 ys rfl hsz hh (by rw [hyl]; congr 1; simp only [Nat.min_def]; split <;> omega)
      (fun j v hj => by rw [Addr.add_lit]; exact hcell (i * 15 + j) v (by rwa [hys, List.getElem?_drop] at hj)) (by rw [hyl]; omega) (fun v hv => h1x v (List.mem_of_mem_drop (by rw [← hys]; exact hv)))
    rw [show (i + 1) * 15 = i * 15 + 15 by omega, this, show Nat.min (n + 1 - i) (n - i) = n - i by simp only [Nat.min_def]; split <;> omega]
  obtain ⟨W1, hW1⟩ : ∃ W1, W1 = W.drew.setRow g (lay L (i * 15 + 15) ys).toArray := ⟨_, rfl⟩
  have hb1 : Blk W1 g 48 (lay L (i * 15 + 15) ys).toArray := by rw [hW1]; exact blk_setRow hh.drew
  have hv1 : Blk W1 vb 48 (row15 ox).toArray := by rw [hW1]; exact (setRow_other W.drew g vb _ hvb).trans hv
  have hll : (lay L (i * 15 + 15) ys).length = L.length := lay_len (by rw [hyl]; omega)
  have hcp2 : ∀ ty dc, (Builtin.copy_ #[22, 22] ty #[.slice (some ⟨g, i * 15, none⟩) (n + 1 - i) dc, .slice (some ⟨vb, 0, none⟩) 1 1]).run Tryd.prog W1 = .ok (goInt ((1 : Nat) : Int)) (W1.setRow g (lay (lay L (i * 15 + 15) ys) (i * 15) (row15 ox)).toArray) := fun ty dc => by
    have := run_copy_rowS W1 22 22 ty 48 15 g (i * 15) (n + 1 - i) dc ⟨vb, 0, none⟩ 1 1 (lay L (i * 15 + 15) ys) 48 (row15 ox) rfl hsz hb1 (by rw [show Nat.min 1 (n + 1 - i) = 1 by simp only [Nat.min_def]; split <;> omega]; rfl)
      (fun j v hj => by rw [Addr.add_lit, Nat.zero_add, hv1.cell]; simpa using hj) (by rw [hll]; show i * 15 + 15 ≤ _; omega) (row15_one _)
    rw [this, show Nat.min 1 (n + 1 - i) = 1 by simp only [Nat.min_def]; split <;> omega]
  have hsh2 := lay_shift (r := row15 ox) (d := 15) htk (show i * 15 ≤ n * 15 by omega) rfl (by omega)
  rw [← hys] at hsh2
  have gO : Hid ((W1.setRow g (lay (lay L (i * 15 + 15) ys) (i * 15) (row15 ox)).toArray).ownsRow base 48 15 (.slice (some ⟨g, 0, none⟩) (n + 1) c) (n + 1) ((os.take i ++ ox :: os.drop i).flatMap row15)) := Lib.hid (by
    refine ⟨by rw [flat15_len]; simp [hol]; omega, .inr ⟨g, c, _, rfl, hbg, blk_setRow hb1, hroom, hcm, by simp only [List.size_toArray]; rw [hsh2.1]; exact hcs, ?_⟩⟩
    rw [show (n + 1) * 15 = n * 15 + 15 by omega, hsh2.2, List.flatMap_append, List.flatMap_cons, ← flat15_take, ← flat15_drop, ← hxs, ← hys]
    simp only [List.append_assoc])
  have gB : Hid (Below base W (W1.setRow g (lay (lay L (i * 15 + 15) ys) (i * 15) (row15 ox)).toArray) ∧ Oth W (W1.setRow g (lay (lay L (i * 15 + 15) ys) (i * 15) (row15 ox)).toArray)) := Lib.hid (by
    rw [hW1] at hb1 ⊢
    exact ⟨below_setRow (below_setRow ((Below.refl _ _).drew) hbg _) hbg _, ((Oth.refl W).drew.setRow hh.drew _).setRow hb1 _⟩)
  rw [← hW1] at hcp1
  have hp1 : (⟨g, 0, none⟩ : Addr).add ((i + 1) * 15) = ⟨g, (i + 1) * 15, none⟩ := by rw [Addr.add_lit, Nat.zero_add]
  have hp2 : (⟨g, 0, none⟩ : Addr).add (i * 15) = ⟨g, i * 15, none⟩ := by rw [Addr.add_lit, Nat.zero_add]
  have hw1 : IntKind.i64.wrap ((i : Int) + 1) = (i : Int) + 1 := IntWalk.i64_in _ (by omega)
  have hw2 : IntKind.i64.wrap ((n : Int) + 1) = (n : Int) + 1 := IntWalk.i64_in _ (by omega)
  have a1 : (0 : Int) ≤ (i : Int) + 1 := by omega
  have a2 : (0 : Int) ≤ (n : Int) + 1 := by omega
  have a3 : ((i : Int) + 1).toNat = i + 1 := by omega
  have a4 : ((n : Int) + 1).toNat = n + 1 := by omega
  have a5 : ¬ c = i + 1 := by omega
  have a6 : ¬ c = i := by omega
  have a7 : (i : Int) + 1 ≤ (n : Int) + 1 := by omega
  have a8 : (n : Int) + 1 ≤ c := by omega
  have a9 : ¬ (i : Int) = n := by omega
  have a10 : ¬ (c : Int) < (n : Int) + 1 := by omega
  have a11 : (i : Int) ≤ (n : Int) + 1 := by omega
  have a12 : (i : Int) ≤ n := by omega
  unfold maxLen at hcm
  clear hW1 hys hxs hsh2 hll hyl h1x hcell hv1 hb1 hsh hxl hol htk hcs hh ho hv i0 hi0 hz0 hz1 hz2
  have mixed : Tryd.prog.follows Departure.mixedOrders = true := by kernel_rfl
  go_enter Tryd.func55, Tryd.ntmps55
  go_wp2_with (simp only [hov])
  go_region_law_o (refine step_copy_runI rfl _ _ 22 22 rfl _ _ (by simp [Act.eval, Act.put]) (by simp [Act.eval, Act.put]) (hcp1 _ _ _) ?_)
  go_wp2_with (at_builtin; refine wpList_copy_runI _ rfl _ _ 22 22 rfl _ _ rfl rfl (hcp2 _ _) ?_)
  go_ret
  exact ⟨_, c, rfl, gO.out, gB.out⟩
set_option maxRecDepth 100000 in
set_option maxHeartbeats 16000000 in
theorem ins_grow (base n c vb i g : Nat) (os : List EO) (hm : n ≤ 1000) (hi : i < n) (hroom : c < n + 1) (ox : EO) (W : World) (hbase : base ≤ W.heap.size) (ho : W.ownsRow base 48 15 (.slice (some ⟨g, 0, none⟩) n c) n (os.flatMap row15)) (hv : Blk W vb 48 (row15 ox).toArray) :
    Calls Tryd.prog 55 #[.slice (some ⟨g, 0, none⟩) n c, .int .i64 (i : Int), .slice (some ⟨vb, 0, none⟩) 1 1] W (InsP base n (os.take i ++ ox :: os.drop i) W) := by
  obtain ⟨i0, hi0, hz0, hz1, hz2⟩ := info_parts infoE
  obtain ⟨cur, hbg, hh, hnc, hcm, hcs, htk⟩ : ∃ cur : Array Value, base ≤ g ∧ Blk W g 48 cur ∧ n ≤ c ∧ c ≤ maxLen ∧ cur.size = c * 15 ∧ cur.toList.take (n * 15) = os.flatMap row15 := by
    rcases ho.2 with ⟨h0, _⟩ | ⟨g', cap, cur, h1, h2, h3, h4, h5, h6, h7⟩
    · cases h0
    · injection h1 with h8 _ h9
      injection h8 with h8
      injection h8 with h8
      subst h8 h9
      exact ⟨cur, h2, h3, h4, h5, h6, h7⟩
  have hol : os.length = n := by have := ho.1; rw [flat15_len] at this; omega
  have hxl : (os.flatMap row15).length = n * 15 := ho.1
  have hsz : (Tryd.prog.info? 48).map (·.size) = some 15 := by rw [hi0]; simp [hz1]
  obtain ⟨xs, hxs⟩ : ∃ xs, xs = os.flatMap row15 := ⟨_, rfl⟩
  rw [← hxs] at htk hxl
  have hcell : ∀ j v, xs[j]? = some v → W.cell? ⟨g, j, none⟩ = some v := fun j v hj => by
    rw [← htk, List.getElem?_take] at hj
    rw [hh.cell]
    split at hj
    · simpa using hj
    · cases hj
  have h1x : ∀ v ∈ xs, v.oneCell' = true := by rw [hxs]; exact flat15_one os
  obtain ⟨ys, hys⟩ : ∃ ys, ys = xs.drop (i * 15) := ⟨_, rfl⟩
  have hyl : ys.length = (n - i) * 15 := by rw [hys, List.length_drop, hxl]; omega
  obtain ⟨G, hG⟩ : ∃ G, G = grownCap W (n + 1) c 48 := ⟨_, rfl⟩
  obtain ⟨Z, hZ⟩ : ∃ Z : Value, i0.zero = some Z ∧ Z.cells.size = 15 := ⟨_, hz0, rfl⟩
  obtain ⟨L, hL⟩ : ∃ L : List Value, L.toArray = (xs.take (i * 15)).toArray ++ Builtin.zeroCells Z.cells (n + 1 - i) ++ Builtin.zeroCells Z.cells (G - (n + 1)) := ⟨((xs.take (i * 15)).toArray ++ Builtin.zeroCells Z.cells (n + 1 - i) ++ Builtin.zeroCells Z.cells (G - (n + 1))).toList, by simp⟩
  have hold : (Builtin.firstCells i0.size i (.slice (some ⟨g, 0, none⟩) i c)).run Tryd.prog W.drew = .ok (xs.take (i * 15)).toArray W.drew := by
    rw [hz1]
    exact run_firstCells_some W.drew 15 i ⟨g, 0, none⟩ i c (xs.take (i * 15)) (by rw [List.length_take]; omega) (fun j v hj => by
      rw [Addr.add_lit, Nat.zero_add]
      rw [List.getElem?_take] at hj
      split at hj
      · exact hcell j v hj
      · cases hj)
  have hik : i + (n + 1 - i) = n + 1 := by omega
  have hkk : (n : Int) + 1 - (i : Int) = ((n + 1 - i : Nat) : Int) := by omega
  have hrz : ∀ ty, (Builtin.append_ #[22, 3] ty #[.slice (some ⟨g, 0, none⟩) i c, .int .i64 ((n : Int) + 1 - (i : Int))]).run Tryd.prog W =
      .ok (.slice (some ⟨W.heap.size, 0, none⟩) (n + 1) G) (W.drew.alloc (.cells L.toArray 48)) := fun ty => by
    have h := Lib.run_append_grow_zeros W 22 3 ty 48 i0 Z .i64 .i64 Tryd.underlying22 Tryd.underlying3 hi0 hZ.1 (some ⟨g, 0, none⟩) i c (xs.take (i * 15)) hold (n + 1 - i) (by omega) (by omega) (by omega) (by omega) (by rw [hz2]; omega) (by rw [hz2, hik]; exact growslice_fits hroom (by omega))
    rw [hik, ← hG] at h
    rw [hkk, hL]
    exact h
  have hGn : n + 1 ≤ G := by rw [hG]; exact grownCap_ge W _ _ _
  have hGm : G ≤ maxLen := by rw [hG]; exact grownCap_le_maxLen W (n + 1) c 48 (by unfold maxLen; omega)
  have hLl : L.length = G * 15 := by
    have := congrArg Array.size hL
    simp only [List.size_toArray, Array.size_append, size_zeroCells, hZ.2, List.length_take, hxl] at this
    rw [this]; omega
  have hLt : L.take (i * 15) = xs.take (i * 15) := by
    have := congrArg Array.toList hL
    simp only [Array.toList_append] at this
    rw [this, List.append_assoc]
    exact List.take_left' (by rw [List.length_take, hxl]; omega)
  obtain ⟨N, hN⟩ : ∃ N, N = W.heap.size := ⟨_, rfl⟩
  obtain ⟨W1, hW1⟩ : ∃ W1, W1 = (W.alloc (.cells L.toArray 48)).drew := ⟨_, rfl⟩
  have hgN : g ≠ N := by have := hh.lt; omega
  have hvN : vb ≠ N := by have := hv.lt; omega
  have hb1 : Blk W1 N 48 L.toArray := by rw [hW1, hN]; exact (Blk.new W 48 L.toArray).drew
  have hv1 : Blk W1 vb 48 (row15 ox).toArray := by rw [hW1]; exact (hv.alloc _).drew
  have hh1 : Blk W1 g 48 cur := by rw [hW1]; exact (hh.alloc _).drew
  have hbN : base ≤ N := by rw [hN]; exact hbase
  have hcp1 : ∀ ty dc, (Builtin.copy_ #[22, 22] ty #[.slice (some ⟨N, i * 15, none⟩) (n + 1 - i) dc, .slice (some ⟨vb, 0, none⟩) 1 1]).run Tryd.prog W1 = .ok (goInt ((1 : Nat) : Int)) (W1.setRow N (lay L (i * 15) (row15 ox)).toArray) := fun ty dc => by
    have := run_copy_rowS W1 22 22 ty 48 15 N (i * 15) (n + 1 - i) dc ⟨vb, 0, none⟩ 1 1 L 48 (row15 ox) rfl hsz hb1 (by rw [show Nat.min 1 (n + 1 - i) = 1 by simp only [Nat.min_def]; split <;> omega]; rfl)
      (fun j v hj => by rw [Addr.add_lit, Nat.zero_add, hv1.cell]; simpa using hj) (by rw [hLl]; show i * 15 + 15 ≤ _; omega) (row15_one _)
    rw [this, show Nat.min 1 (n + 1 - i) = 1 by simp only [Nat.min_def]; split <;> omega]
  obtain ⟨W2, hW2⟩ : ∃ W2, W2 = W1.setRow N (lay L (i * 15) (row15 ox)).toArray := ⟨_, rfl⟩
  have hb2 : Blk W2 N 48 (lay L (i * 15) (row15 ox)).toArray := by rw [hW2]; exact blk_setRow hb1
  have hh2 : Blk W2 g 48 cur := by rw [hW2]; exact (setRow_other W1 N g _ hgN).trans hh1
  have hll : (lay L (i * 15) (row15 ox)).length = L.length := lay_len (by rw [hLl]; show i * 15 + 15 ≤ _; omega)
  have hcp2 : ∀ ty dc sc, (Builtin.copy_ #[22, 22] ty #[.slice (some ⟨N, (i + 1) * 15, none⟩) (n - i) dc, .slice (some ⟨g, i * 15, none⟩) (n - i) sc]).run Tryd.prog W2.drew = .ok (goInt ((n - i : Nat) : Int)) (W2.drew.setRow N (lay (lay L (i * 15) (row15 ox)) (i * 15 + 15) ys).toArray) := fun ty dc sc => by
    have := run_copy_rowS W2.drew 22 22 ty 48 15 N (i * 15 + 15) (n - i) dc ⟨g, i * 15, none⟩ (n - i) sc (lay L (i * 15) (row15 ox)) 48 ys rfl hsz hb2.drew (by rw [hyl]; congr 1; simp only [Nat.min_def]; split <;> omega)
      (fun j v hj => by
        have h7 := hcell (i * 15 + j) v (by rwa [hys, List.getElem?_drop] at hj)
        rw [hh.cell] at h7
        rw [Addr.add_lit, hh2.drew.cell]; exact h7) (by rw [hyl, hll]; omega) (fun v hv => h1x v (List.mem_of_mem_drop (by rw [← hys]; exact hv)))
    rw [show (i + 1) * 15 = i * 15 + 15 by omega, this, show Nat.min (n - i) (n - i) = n - i by simp only [Nat.min_def]; split <;> omega]
  have hsh2 := lay_grow (r := row15 ox) (d := 15) hLt (show i * 15 ≤ n * 15 by omega) hxl rfl (by rw [hLl]; omega)
  rw [← hys] at hsh2
  have gO : Hid ((W2.drew.setRow N (lay (lay L (i * 15) (row15 ox)) (i * 15 + 15) ys).toArray).ownsRow base 48 15 (.slice (some ⟨N, 0, none⟩) (n + 1) G) (n + 1) ((os.take i ++ ox :: os.drop i).flatMap row15)) := Lib.hid (by
    refine ⟨by rw [flat15_len]; simp [hol]; omega, .inr ⟨N, G, _, rfl, hbN, blk_setRow hb2.drew, hGn, hGm, by simp only [List.size_toArray]; rw [hsh2.1]; exact hLl, ?_⟩⟩
    rw [show (n + 1) * 15 = n * 15 + 15 by omega, hsh2.2, List.flatMap_append, List.flatMap_cons, ← flat15_take, ← flat15_drop, ← hxs, ← hys]
    simp only [List.append_assoc])
  have gB : Hid (Below base W (W2.drew.setRow N (lay (lay L (i * 15) (row15 ox)) (i * 15 + 15) ys).toArray) ∧ Oth W (W2.drew.setRow N (lay (lay L (i * 15) (row15 ox)) (i * 15 + 15) ys).toArray)) := Lib.hid (by
    rw [hW2] at hb2 ⊢
    rw [hW1] at hb1 hb2 ⊢
    exact ⟨below_setRow (below_setRow (((Below.refl _ _).alloc hbase _).drew) hbN _).drew hbN _, (((((Oth.refl W).alloc _).drew).setRow hb1 _).drew).setRow hb2.drew _⟩)
  rw [← hW2] at hcp1
  have hE1 : W.drew.alloc (.cells L.toArray 48) = W1 := by rw [hW1]; rfl
  rw [hE1] at hrz
  have hE2 : (W.alloc (.cells L.toArray 48)).drew = W1 := hW1.symm
  rw [← hN] at hrz
  have hp1 : (⟨N, 0, none⟩ : Addr).add ((i + 1) * 15) = ⟨N, (i + 1) * 15, none⟩ := by rw [Addr.add_lit, Nat.zero_add]
  have hp2 : (⟨N, 0, none⟩ : Addr).add (i * 15) = ⟨N, i * 15, none⟩ := by rw [Addr.add_lit, Nat.zero_add]
  have hp3 : (⟨g, 0, none⟩ : Addr).add (i * 15) = ⟨g, i * 15, none⟩ := by rw [Addr.add_lit, Nat.zero_add]
  have hw1 : IntKind.i64.wrap ((i : Int) + 1) = (i : Int) + 1 := IntWalk.i64_in _ (by omega)
  have hw2 : IntKind.i64.wrap ((n : Int) + 1) = (n : Int) + 1 := IntWalk.i64_in _ (by omega)
  have hw3 : IntKind.i64.wrap ((n : Int) + 1 - i) = (n : Int) + 1 - i := IntWalk.i64_in _ (by omega)
  have a1 : (0 : Int) ≤ (i : Int) + 1 := by omega
  have a2 : (0 : Int) ≤ (n : Int) + 1 := by omega
  have a3 : ((i : Int) + 1).toNat = i + 1 := by omega
  have a5 : ¬ G = i + 1 := by omega
  have a6 : ¬ G = i := by omega
  have a6b : ¬ c = i := by omega
  have a7 : (i : Int) + 1 ≤ (n : Int) + 1 := by omega
  have a9 : ¬ (i : Int) = n := by omega
  have a10 : (c : Int) < (n : Int) + 1 := by omega
  have a11 : (i : Int) ≤ (n : Int) + 1 := by omega
  have a12 : (i : Int) ≤ n := by omega
  unfold maxLen at hcm hGm
  clear hN hW1 hW2 hys hxs hsh2 hll hyl h1x hcell hv1 hb1 hh1 hb2 hh2 hxl hol htk hcs hh ho hv hz0 hz1 hz2 hi0 hE1 hLl hLt hold hik hkk hL hZ hG hsz
  have mixed : Tryd.prog.follows Departure.mixedOrders = true := by kernel_rfl
  go_enter Tryd.func55, Tryd.ntmps55
  go_wp2_with (first
    | (at_builtin; refine Lib.wpList_append_run _ rfl _ _ _ _ rfl _ _ rfl rfl _ _ (hrz _) ?_)
    | (at_builtin; refine wpList_copy_runI _ rfl _ _ 22 22 rfl _ _ rfl rfl (hcp1 _ _) ?_)
    | (at_builtin; refine wpList_copy_runI _ rfl _ _ 22 22 rfl _ _ rfl rfl (hcp2 _ _ _) ?_))
  go_region_law_o (refine step_copy_runI rfl _ _ 22 22 rfl (.slice (some ⟨N, (i + 1) * 15, none⟩) (n - i) (G - (i + 1))) (.slice (some ⟨g, i * 15, none⟩) (n - i) (c - i)) (by simp [Act.eval, Act.put]) (by simp [Act.eval, Act.put]) (hcp2 _ _ _) ?_)
  go_wp2
  go_ret
  exact ⟨_, G, rfl, gO.out, gB.out⟩
theorem einsert_any (base n c vb i : Nat) (A : Option Addr) (os : List EO) (hm : n ≤ 1000) (hi : i ≤ n) (ox : EO) (W : World) (hbase : base ≤ W.heap.size) (ho : W.ownsRow base 48 15 (.slice A n c) n (os.flatMap row15)) (hv : Blk W vb 48 (row15 ox).toArray) (hvb : ∀ g, A = some ⟨g, 0, none⟩ → vb ≠ g) :
    Calls Tryd.prog 55 #[.slice A n c, .int .i64 (i : Int), .slice (some ⟨vb, 0, none⟩) 1 1] W (InsP base n (os.take i ++ ox :: os.drop i) W) := by
  have hol : os.length = n := by have := ho.1; rw [flat15_len] at this; omega
  rcases Nat.lt_or_ge i n with h | h
  · obtain ⟨g, rfl⟩ : ∃ g, A = some ⟨g, 0, none⟩ := by
      rcases ho.2 with ⟨_, h0⟩ | ⟨g', cap, cur, h1, _⟩
      · omega
      · injection h1 with h1; exact ⟨g', h1⟩
    rcases Nat.lt_or_ge c (n + 1) with h2 | h2
    · exact ins_grow base n c vb i g os hm h h2 ox W hbase ho hv
    · exact ins_room base n c vb i g os hm h h2 ox W ho hv (hvb g rfl)
  · obtain rfl : i = n := by omega
    rw [List.take_of_length_le (by omega), List.drop_of_length_le (by omega)]
    exact ins_end base i c vb A os hm ox W hbase ho hv
end Go.Proofs.YtdmjdpaehnhdoaaDoor
