/- Seen: slices.Insert of one number into a row of the call's own. -/
import Derived.Test.YtocnmdnicoahnaaE
import Derived.Lib.LazyBuf
namespace Go.Proofs.Ytocnmdnicoahnaa
open Go.Shelf Go.ChangeShapes Go.WideShapes Go.ChangeAt Go.RowKit
set_option linter.unusedSimpArgs false
set_option linter.unusedVariables false
theorem get_int {l : List Int} {j : Nat} (hj : j < l.length) : (ints l)[j]? = some (.int .i64 (l.getD j 0)) := by
  rw [List.getElem?_map, List.getElem?_eq_getElem hj]
  simp [List.getD_eq_getElem?_getD, List.getElem?_eq_getElem hj]
theorem ints_one (l : List Int) : ∀ u ∈ ints l, u.oneCell' = true := by
  intro u hu
  simp only [List.mem_map] at hu
  obtain ⟨x, _, rfl⟩ := hu
  rfl
/-- The slice lies in a block of the call's own. -/
def Row (base : Nat) (w : World) (A : Option Addr) (m : Nat) : Prop := ∃ g cur, A = some ⟨g, 0, none⟩ ∧ base ≤ g ∧ Blk w g 3 cur ∧ m ≤ cur.size
theorem Row.set1 {base m g o : Nat} {w : World} {A : Option Addr} (h : Row base w A m) (v : Value) : Row base (w.setCell ⟨g, o, none⟩ v) A m := by
  obtain ⟨g', cur, rfl, hb, hB, hs⟩ := h
  by_cases e : g' = g
  · subst e
    exact ⟨_, _, rfl, hb, hB.set_ o v, by simpa using hs⟩
  · exact ⟨_, _, rfl, hb, hB.far e v, hs⟩
theorem Row.setCells {base m g : Nat} {A : Option Addr} : ∀ (vs : List Value) (o : Nat) (w : World), Row base w A m → Row base (w.setCells g o vs) A m := fun vs => by
  induction vs with
  | nil => intro o w h; exact h
  | cons v r ih => intro o w h; rw [World.setCells]; exact ih _ _ (h.set1 v)
theorem Row.mono {b b' m : Nat} {w : World} {A : Option Addr} (h : Row b w A m) (hb : b' ≤ b) : Row b' w A m := by
  obtain ⟨g, cur, e, h1, h2, h3⟩ := h
  exact ⟨g, cur, e, Nat.le_trans hb h1, h2, h3⟩
theorem Row.drew {base m : Nat} {w : World} {A : Option Addr} (h : Row base w A m) : Row base w.drew A m := h
/-- At the end, a new row. -/
theorem insert_end_grow (bs : Option Addr) (n c : Nat) (l : List Int) (hn : l.length = n) (hm : n ≤ 5000) (hnc : n ≤ c) (hroom : c < n + 1) (x : Int) (w : World) (vb : Nat) (hv : w.cell? ⟨vb, 0, none⟩ = some (.int .i64 x)) (hnil : bs = none → n = 0)
    (hcs : ∀ a, bs = some a → ∀ j v, (ints l)[j]? = some v → w.cell? (a.add j) = some v) (base : Nat) (hb : base ≤ w.heap.size) :
    Calls Try.prog 23 #[.slice bs n c, .int .i64 n, .slice (some ⟨vb, 0, none⟩) 1 1] w fun e w' => ∃ A c, e = .returned (.slice A (n + 1) c) ∧ n + 1 ≤ c ∧ Reads w' w'.heap.size 1 A (n + 1) (ints (ins l n x)) ∧ Below base w w' ∧ Row base w' A (n + 1) := by
  refine (Any2.slices_Insert_int_end_grow laysInsert bs n c vb 0 1 1 (ints l) [.int .i64 x] w (by omega) hnc hroom (by omega) (by simp [hn]) rfl hnil hcs (fun j v hj => by
    cases j with
    | zero => simp at hj; subst hj; exact hv
    | succ j => simp at hj) (by simp [Value.oneCell'])).mono ?_
  rintro e w' ⟨rfl, rfl⟩
  generalize hz : Builtin.zeroCells _ _ = zc
  have hB := Blk.new w.drew 3 ((ints l ++ [Value.int .i64 x]).toArray ++ zc)
  have hcell : ∀ j, j ≤ n → (w.drew.alloc (.cells ((ints l ++ [Value.int .i64 x]).toArray ++ zc) 3)).cell? ⟨w.heap.size, j, none⟩ = (ints l ++ [Value.int .i64 x])[j]? := fun j hj => by
    have := hB.cell j
    rw [show (w.drew.heap.size) = w.heap.size from rfl] at this
    rw [this]
    rw [Array.getElem?_append_left (by simp [hn]; omega)]
    simp
  refine ⟨_, _, rfl, ?_, reads_ins hn (Nat.le_refl _) (by rw [World.size_alloc]; exact Nat.lt_succ_self _) (fun j hj => ?_) ?_ (fun j h1 h2 => by omega), (Below.drew (Below.refl _ _)).alloc hb _, ⟨_, _, rfl, hb, hB, by simp [hn]⟩⟩
  · exact grownCap_ge _ _ _ _
  · exact (hcell j (by omega)).trans (by rw [List.getElem?_append_left (by simp [hn]; omega), get_int (by omega)])
  · exact (hcell n (Nat.le_refl _)).trans (by rw [List.getElem?_append_right (by simp [hn])]; simp [hn])
/-- At the end, in the row's own spare. -/
theorem insert_end_room (g n c : Nat) (cur : Array Value) (l : List Int) (hn : l.length = n) (hc63 : c ≤ maxLen) (hroom : n + 1 ≤ c) (hcur : cur.size = c) (hpre : cur.toList.take n = ints l) (x : Int) (w : World) (hB : Blk w g 3 cur) (vb : Nat) (hv : w.cell? ⟨vb, 0, none⟩ = some (.int .i64 x)) (base : Nat) (hb : base ≤ g) :
    Calls Try.prog 23 #[.slice (some ⟨g, 0, none⟩) n c, .int .i64 n, .slice (some ⟨vb, 0, none⟩) 1 1] w fun e w' => ∃ A c, e = .returned (.slice A (n + 1) c) ∧ n + 1 ≤ c ∧ Reads w' w'.heap.size 1 A (n + 1) (ints (ins l n x)) ∧ Below base w w' ∧ Row base w' A (n + 1) := by
  have hsome : ∀ j, j < c → (w.cell? ⟨g, j, none⟩).isSome = true := fun j hj => by
    rw [hB.cell j, Array.getElem?_eq_getElem (by omega)]
    rfl
  refine (Any2.slices_Insert_int_end_room laysInsert g 0 n c vb 0 1 1 [.int .i64 x] w (by omega) hroom (by unfold maxLen at hc63; omega) rfl (fun j hj => hsome _ (by omega)) (fun j hj => hB.frozen _) (fun j v hj => by
    cases j with
    | zero => simp at hj; subst hj; exact hv
    | succ j => simp at hj) (by simp [Value.oneCell'])).mono ?_
  rintro e w' ⟨rfl, rfl⟩
  have hpl : ∀ j, j < n → w.cell? ⟨g, j, none⟩ = some (.int .i64 (l.getD j 0)) := fun j hj => by
    rw [hB.cell j]
    have h1 := get_int (l := l) (j := j) (by omega)
    rw [← hpre, List.getElem?_take_of_lt hj] at h1
    simpa using h1
  have hsz : ∀ (vs : List Value) (o : Nat) (w : World), (w.setCells g o vs).heap.size = w.heap.size := fun vs => by
    induction vs with
    | nil => intro o w; rfl
    | cons v r ih => intro o w; rw [World.setCells, ih, World.size_setCell]
  refine ⟨_, _, rfl, hroom, reads_ins hn (Nat.le_refl _) (by rw [hsz]; exact hB.lt) (fun j hj => ?_) ?_ (fun j h1 h2 => by omega), below_setCells hb _ _ _ (Below.refl _ _), Row.setCells _ _ _ ⟨g, cur, rfl, hb, hB, by omega⟩⟩
  · rw [World.cell?_setCells_out _ _ _ _ _ (fun _ _ => Or.inl (by first | (simp; done) | (simp; omega)))]
    exact hpl j hj
  · have := World.cell?_setCells_in g [.int .i64 x] (0 + n) w (fun j hj => hsome _ (by simp at hj; omega)) 0 (by simp)
    simpa using this
theorem heap_setCells (g : Nat) : ∀ (vs : List Value) (o : Nat) (w : World), (w.setCells g o vs).heap.size = w.heap.size := fun vs => by
  induction vs with
  | nil => intro o w; rfl
  | cons v r ih => intro o w; rw [World.setCells, ih, World.size_setCell]
theorem drop_int {l : List Int} {n i t : Nat} (hn : l.length = n) (h : i + t < n) : ((ints l).drop i)[t]? = some (.int .i64 (l.getD (i + t) 0)) := by
  rw [List.getElem?_drop]
  exact get_int (by omega)
/-- In the midst, the row has room: what stands behind goes on by one. -/
theorem insert_shift (g n c i : Nat) (hi : i < n) (cur : Array Value) (l : List Int) (hn : l.length = n) (hc63 : c ≤ maxLen) (hroom : n + 1 ≤ c) (hcur : cur.size = c) (hpre : cur.toList.take n = ints l) (x : Int) (w : World) (hB : Blk w g 3 cur) (vb : Nat) (hV : Blk w vb 3 #[.int .i64 x]) (hvb : vb ≠ g) (base : Nat) (hb : base ≤ g) :
    Calls Try.prog 23 #[.slice (some ⟨g, 0, none⟩) n c, .int .i64 i, .slice (some ⟨vb, 0, none⟩) 1 1] w fun e w' => ∃ A c, e = .returned (.slice A (n + 1) c) ∧ n + 1 ≤ c ∧ Reads w' w'.heap.size 1 A (n + 1) (ints (ins l i x)) ∧ Below base w w' ∧ Row base w' A (n + 1) := by
  have hsome : ∀ j, j < c → (w.cell? ⟨g, j, none⟩).isSome = true := fun j hj => by
    rw [hB.cell j, Array.getElem?_eq_getElem (by omega)]
    rfl
  have hpl : ∀ j, j < n → w.cell? ⟨g, j, none⟩ = some (.int .i64 (l.getD j 0)) := fun j hj => by
    rw [hB.cell j]
    have h1 := get_int (l := l) (j := j) (by omega)
    rw [← hpre, List.getElem?_take_of_lt hj] at h1
    simpa using h1
  have hsh : ∀ b (cs : Array Value), Blk w b 3 cs → w.shape? b = some (3, cs.size) := fun b cs h => by
    unfold World.shape?
    rw [show w.heap[b]? = _ from h]
  refine (Any2.slices_Insert_int_shift laysInsert g 0 n c i vb 0 1 1 (ints l) [.int .i64 x] w hi (by omega) hroom (by unfold maxLen at hc63; omega) hvb (by simp [hn]) rfl (fun j v hj => by
      have hjl : j < l.length := by
        rcases Nat.lt_or_ge j l.length with h | h
        · exact h
        · rw [List.getElem?_eq_none (by simpa using h)] at hj; cases hj
      rw [get_int hjl] at hj
      injection hj with hj
      subst hj
      rw [Nat.zero_add]
      exact hpl j (by omega)) (fun j hj => by rw [Nat.zero_add]; exact hsome j (by omega)) (fun j hj => hB.frozen _) (fun j v hj => by
    cases j with
    | zero => simp at hj; subst hj; exact hV.cell 0
    | succ j => simp at hj) (ints_one l) (by simp [Value.oneCell']) 3 3 1 cur.size (hsh vb _ hV) (hsh g _ hB) (by omega) (hV.frozen _) (hV.frozen _)).mono ?_
  rintro e w' ⟨rfl, rfl⟩
  have hdl : ((ints l).drop i).length = n - i := by simp [hn]
  refine ⟨_, _, rfl, hroom, reads_ins hn (by omega) (by rw [heap_setCells, heap_setCells]; exact hB.lt) (fun j hj => ?_) ?_ (fun j h1 h2 => ?_), below_setCells hb _ _ _ (below_setCells hb _ _ _ (Below.drew (Below.refl _ _))), Row.setCells _ _ _ (Row.setCells _ _ _ ⟨g, cur, rfl, hb, hB, by omega⟩)⟩
  · rw [World.cell?_setCells_out _ _ _ _ _ (fun _ _ => Or.inl (by first | (simp; done) | (simp; omega))), World.cell?_setCells_out _ _ _ _ _ (fun _ _ => Or.inl (by first | (simp; done) | (simp; omega)))]
    exact hpl j (by omega)
  · have := World.cell?_setCells_in g [.int .i64 x] (0 + i) (w.drew.setCells g (0 + (i + 1)) ((ints l).drop i)) (fun j hj => by
      simp at hj
      subst hj
      rw [World.cell?_setCells_out _ _ _ _ _ (fun _ _ => Or.inl (by first | (simp; done) | (simp; omega)))]
      exact hsome _ (by omega)) 0 (by simp)
    simpa using this
  · rw [World.cell?_setCells_out _ _ _ _ _ (fun _ _ => Or.inr (by first | (simp; done) | (simp; omega)))]
    have hdt := drop_int (l := l) (n := n) (i := i) (t := j - i) hn (by omega)
    rw [show i + (j - i) = j by omega] at hdt
    have := World.cell?_setCells_in g ((ints l).drop i) (0 + (i + 1)) w.drew (fun t ht => hsome _ (by omega)) (j - i) (by omega)
    rw [show 0 + (i + 1) + (j - i) = j + 1 by omega] at this
    rw [this]
    rw [List.getElem?_eq_getElem (by omega)] at hdt
    exact hdt
/-- In the midst, no room: a new row. -/
theorem insert_grow (g n c i : Nat) (hi : i < n) (cur : Array Value) (l : List Int) (hn : l.length = n) (hm : n ≤ 5000) (hnc : n ≤ c) (hroom : c < n + 1) (hcur : cur.size = c) (hpre : cur.toList.take n = ints l) (x : Int) (w : World) (hB : Blk w g 3 cur) (vb : Nat) (hv : w.cell? ⟨vb, 0, none⟩ = some (.int .i64 x)) (base : Nat) (hb : base ≤ w.heap.size) :
    Calls Try.prog 23 #[.slice (some ⟨g, 0, none⟩) n c, .int .i64 i, .slice (some ⟨vb, 0, none⟩) 1 1] w fun e w' => ∃ A c, e = .returned (.slice A (n + 1) c) ∧ n + 1 ≤ c ∧ Reads w' w'.heap.size 1 A (n + 1) (ints (ins l i x)) ∧ Below base w w' ∧ Row base w' A (n + 1) := by
  have hpl : ∀ j, j < n → w.cell? ⟨g, j, none⟩ = some (.int .i64 (l.getD j 0)) := fun j hj => by
    rw [hB.cell j]
    have h1 := get_int (l := l) (j := j) (by omega)
    rw [← hpre, List.getElem?_take_of_lt hj] at h1
    simpa using h1
  refine (Any2.slices_Insert_int_grow laysInsert g 0 n c i vb 0 1 1 (ints l) [.int .i64 x] w hi (by omega) hnc hroom (by omega) (by simp [hn]) rfl (fun j v hj => by
      have hjl : j < l.length := by
        rcases Nat.lt_or_ge j l.length with h | h
        · exact h
        · rw [List.getElem?_eq_none (by simpa using h)] at hj; cases hj
      rw [get_int hjl] at hj
      injection hj with hj
      subst hj
      rw [Nat.zero_add]
      exact hpl j (by omega)) (fun j v hj => by
    cases j with
    | zero => simp at hj; subst hj; exact hv
    | succ j => simp at hj) (ints_one l) (by simp [Value.oneCell'])).mono ?_
  rintro e w' ⟨rfl, rfl⟩
  generalize hz2 : Builtin.zeroCells (Value.int .i64 0).cells (grownCap w (n + 1) c _ - (n + 1)) = zc2
  have hz1s : (Builtin.zeroCells (Value.int .i64 0).cells (n + 1 - i)).size = n + 1 - i := by rw [size_zeroCells]; simp [Value.cells]
  generalize hz1 : Builtin.zeroCells (Value.int .i64 0).cells (n + 1 - i) = zc1 at hz1s
  have hB1 := Blk.new w 3 (((ints l).take i).toArray ++ zc1 ++ zc2)
  have htl : ((ints l).take i).length = i := by simp [hn]; omega
  have hsz : n + 1 ≤ (((ints l).take i).toArray ++ zc1 ++ zc2).size := by simp [hn]; omega
  have hsome : ∀ j, j < n + 1 → ((w.alloc (.cells (((ints l).take i).toArray ++ zc1 ++ zc2) 3)).drew.cell? ⟨w.heap.size, j, none⟩).isSome = true := fun j hj => by
    have := hB1.cell j
    rw [show (w.alloc (.cells (((ints l).take i).toArray ++ zc1 ++ zc2) 3)).drew.cell? ⟨w.heap.size, j, none⟩ = (w.alloc (.cells (((ints l).take i).toArray ++ zc1 ++ zc2) 3)).cell? ⟨w.heap.size, j, none⟩ from rfl, this, Array.getElem?_eq_getElem (by omega)]
    rfl
  have hlow : ∀ j, j < i → (w.alloc (.cells (((ints l).take i).toArray ++ zc1 ++ zc2) 3)).drew.cell? ⟨w.heap.size, j, none⟩ = some (.int .i64 (l.getD j 0)) := fun j hj => by
    have := hB1.cell j
    rw [show (w.alloc (.cells (((ints l).take i).toArray ++ zc1 ++ zc2) 3)).drew.cell? ⟨w.heap.size, j, none⟩ = (w.alloc (.cells (((ints l).take i).toArray ++ zc1 ++ zc2) 3)).cell? ⟨w.heap.size, j, none⟩ from rfl, this, Array.getElem?_append_left (by simp [hn]; omega), Array.getElem?_append_left (by simp [hn]; omega)]
    have h1 := get_int (l := l) (j := j) (by omega)
    rw [← h1]
    simp [hj]
  have hBel : Below base w (w.alloc (.cells (((ints l).take i).toArray ++ zc1 ++ zc2) 3)).drew := ((Below.refl _ _).alloc hb _).drew
  have hlt : w.heap.size < (w.alloc (.cells (((ints l).take i).toArray ++ zc1 ++ zc2) 3)).drew.heap.size := by show _ < (w.alloc _).heap.size; rw [World.size_alloc]; exact Nat.lt_succ_self _
  have hdl : ((ints l).drop i).length = n - i := by simp [hn]
  suffices hh : ∀ W1 : World, W1 = (w.alloc (.cells (((ints l).take i).toArray ++ zc1 ++ zc2) 3)).drew → ∃ A cc, Ending.returned (.slice (some ⟨w.heap.size, 0, none⟩) (n + 1) (grownCap w (n + 1) c 3)) = .returned (.slice A (n + 1) cc) ∧ n + 1 ≤ cc ∧ Reads ((W1.setCells w.heap.size i [.int .i64 x]).drew.setCells w.heap.size (i + 1) ((ints l).drop i)) ((W1.setCells w.heap.size i [.int .i64 x]).drew.setCells w.heap.size (i + 1) ((ints l).drop i)).heap.size 1 A (n + 1) (ints (ins l i x)) ∧ Below base w ((W1.setCells w.heap.size i [.int .i64 x]).drew.setCells w.heap.size (i + 1) ((ints l).drop i)) ∧ Row base ((W1.setCells w.heap.size i [.int .i64 x]).drew.setCells w.heap.size (i + 1) ((ints l).drop i)) A (n + 1) from hh _ rfl
  intro W1 hW1
  have hRow : Row base W1 (some ⟨w.heap.size, 0, none⟩) (n + 1) := ⟨_, _, rfl, hb, by rw [hW1]; exact hB1.drew, hsz⟩
  rw [← hW1] at hsome hlow hBel hlt
  have hdr : ∀ p, (W1.setCells w.heap.size i [.int .i64 x]).drew.cell? p = (W1.setCells w.heap.size i [.int .i64 x]).cell? p := fun _ => rfl
  refine ⟨_, _, rfl, grownCap_ge _ _ _ _, reads_ins hn (by omega) (by rw [heap_setCells]; show _ < (W1.setCells _ _ _).heap.size; rw [heap_setCells]; exact hlt) (fun j hj => ?_) ?_ (fun j h1 h2 => ?_), below_setCells hb _ _ _ (Below.drew (below_setCells hb _ _ _ hBel)), Row.setCells _ _ _ (Row.setCells _ _ _ hRow)⟩
  · rw [World.cell?_setCells_out _ _ _ _ _ (fun _ _ => Or.inl (by first | (simp; done) | (simp; omega))), hdr, World.cell?_setCells_out _ _ _ _ _ (fun _ _ => Or.inl (by first | (simp; done) | (simp; omega)))]
    exact hlow j hj
  · rw [World.cell?_setCells_out _ _ _ _ _ (fun _ _ => Or.inl (by first | (simp; done) | (simp; omega))), hdr]
    have := World.cell?_setCells_in w.heap.size [.int .i64 x] i W1 (fun j hj => hsome _ (by simp at hj; omega)) 0 (by simp)
    simpa using this
  · have hdt := drop_int (l := l) (n := n) (i := i) (t := j - i) hn (by omega)
    rw [show i + (j - i) = j by omega] at hdt
    have := World.cell?_setCells_in w.heap.size ((ints l).drop i) (i + 1) (W1.setCells w.heap.size i [.int .i64 x]).drew (fun t ht => by
      rw [hdr, World.cell?_setCells_out _ _ _ _ _ (fun _ _ => Or.inr (by first | (simp; done) | (simp; omega)))]
      exact hsome _ (by omega)) (j - i) (by omega)
    rw [show i + 1 + (j - i) = j + 1 by omega] at this
    rw [this]
    rw [List.getElem?_eq_getElem (by omega)] at hdt
    exact hdt
end Go.Proofs.Ytocnmdnicoahnaa
