/- Field: the contracts of PutNumber and PutDyad. -/
import Derived.Test.YtjmhefkmpfkpbaaB
namespace Go.Proofs.Ytjmhefkmpfkpbaa
open Go.ChangeShapes Go.WideShapes Go.ChangeAt Go.RowKit
set_option linter.unusedSimpArgs false
set_option linter.unusedVariables false
theorem own_mono {w : World} {base base' size n : Nat} {e : TypeId} {v : Value} {xs : List Value} (h : w.ownsRow base e size v n xs) (hb : base' ≤ base) : w.ownsRow base' e size v n xs :=
  ⟨h.1, h.2.imp id fun ⟨g, c, cur, e, h1, r⟩ => ⟨g, c, cur, e, Nat.le_trans hb h1, r⟩⟩
/-- The outcome of a put: the bytes and all digits, or that they are too many. -/
def PutPost (w : World) (n : Nat) (l : List Int) (ps : List (Nat × Nat)) (en : Ending) (w' : World) : Prop :=
  Below w.heap.size w w' ∧ ((3900 < n + total ps ∧ en = .returned (.tuple #[.slice none 0 0, .int .i64 4])) ∨
    (n + total ps ≤ 3900 ∧ ∃ A c, en = .returned (.tuple #[.slice A (n + total ps) c, .int .i64 0]) ∧ w'.ownsRow w.heap.size 5 1 (.slice A (n + total ps) c) (n + total ps) (u8s (l ++ flat ps))))
theorem put_any (A : Option Addr) (n c : Nat) (l : List Int) (hn : l.length = n) (hm : n ≤ 10000) (P : Option Addr) (m pc : Nat) (ps : List (Nat × Nat)) (hpl : ps.length = m) (hm2 : m ≤ 100) (h8 : ∀ p ∈ ps, p.2 ≤ 8) (h64 : ∀ p ∈ ps, p.1 < 18446744073709551616) (w : World) (hR : Reads w w.heap.size 1 A n (u8s l)) (hP : Reads w w.heap.size 2 P m (partCells ps)) :
    Calls Try.prog 99 #[.slice A n c, .slice P m pc] w (PutPost w n l ps) := by
  rcases Nat.lt_or_ge 3900 (n + total ps) with h | h
  · refine (put_many A n c l hn hm P m pc ps hpl hm2 h8 h64 w hR hP h).mono ?_
    rintro en w' ⟨rfl, hb⟩
    exact ⟨hb, .inl ⟨h, rfl⟩⟩
  · refine (put_ok A n c l hn hm P m pc ps hpl hm2 h8 h64 w hR hP h).mono ?_
    rintro en w' ⟨v, rfl, ho, hb⟩
    obtain ⟨A', c', rfl, _, _⟩ := own_slice ho
    exact ⟨hb, .inr ⟨h, A', c', rfl, ho⟩⟩
theorem PutPost.wide {w w0 : World} {n : Nat} {l : List Int} {ps : List (Nat × Nat)} {en : Ending} {w' : World} (h : PutPost w0 n l ps en w') (hB : Below w.heap.size w w0) : PutPost w n l ps en w' := by
  obtain ⟨h1, h2⟩ := h
  refine ⟨hB.trans (h1.mono hB.size), h2.imp id fun ⟨h3, A, c, h4, h5⟩ => ⟨h3, A, c, h4, own_mono h5 hB.size⟩⟩
def okN (x s : Nat) : Prop := 1 ≤ s ∧ s ≤ 8 ∧ x < 256 ^ s
set_option maxHeartbeats 2000000 in
theorem putn_ok1 (A : Option Addr) (n c : Nat) (l : List Int) (hn : l.length = n) (hm : n ≤ 10000) (x : Nat) (hx : x < 256 ^ 1) (w : World) (hR : Reads w w.heap.size 1 A n (u8s l)) :
    Calls Try.prog 82 #[.slice A n c, .int .u64 x, .int .i64 1] w (PutPost w n l [(x, 1)]) := by
  have d : ((x : Int) / 256 != 0) = false := bne_eq_false_iff_eq.mpr (by omega)
  have hB := (Below.refl w.heap.size w).alloc (Nat.le_refl _) (.cells #[.int .u64 (x : Int), .int .i64 ((1 : Nat) : Int)] 146)
  have hc := put_any A n c l hn hm (some ⟨w.heap.size, 0, none⟩) 1 1 [(x, 1)] rfl (by omega) (by simp) (by simp; omega) (w.alloc (.cells #[.int .u64 (x : Int), .int .i64 ((1 : Nat) : Int)] 146)) ((hR.alloc (Nat.le_refl _) _).more hB.size) (by rw [World.size_alloc]; exact reads_one w (partCells [(x, 1)]) 146 2 rfl)
  clear hx
  go_enter Try.func82, Try.ntmps82
  go_wp2_with fail
  refine hc.mono ?_
  rintro en w1 h1
  obtain ⟨hb1, ⟨h2, rfl⟩ | ⟨h2, A', c', rfl, ho⟩⟩ := h1.wide hB
  · clear hR hn hc h1
    go_wp2
    go_ret2
    exact ⟨hb1, .inl ⟨h2, rfl⟩⟩
  · have H2 := Lib.hid h2
    clear hR hn hc h2 h1
    go_wp2
    go_ret2
    exact ⟨hb1, .inr ⟨H2.out, A', c', rfl, ho⟩⟩
set_option maxHeartbeats 2000000 in
theorem putn_ok2 (A : Option Addr) (n c : Nat) (l : List Int) (hn : l.length = n) (hm : n ≤ 10000) (x : Nat) (hx : x < 256 ^ 2) (w : World) (hR : Reads w w.heap.size 1 A n (u8s l)) :
    Calls Try.prog 82 #[.slice A n c, .int .u64 x, .int .i64 2] w (PutPost w n l [(x, 2)]) := by
  have d : ((x : Int) / 65536 != 0) = false := bne_eq_false_iff_eq.mpr (by omega)
  have hB := (Below.refl w.heap.size w).alloc (Nat.le_refl _) (.cells #[.int .u64 (x : Int), .int .i64 ((2 : Nat) : Int)] 146)
  have hc := put_any A n c l hn hm (some ⟨w.heap.size, 0, none⟩) 1 1 [(x, 2)] rfl (by omega) (by simp) (by simp; omega) (w.alloc (.cells #[.int .u64 (x : Int), .int .i64 ((2 : Nat) : Int)] 146)) ((hR.alloc (Nat.le_refl _) _).more hB.size) (by rw [World.size_alloc]; exact reads_one w (partCells [(x, 2)]) 146 2 rfl)
  clear hx
  go_enter Try.func82, Try.ntmps82
  go_wp2_with fail
  refine hc.mono ?_
  rintro en w1 h1
  obtain ⟨hb1, ⟨h2, rfl⟩ | ⟨h2, A', c', rfl, ho⟩⟩ := h1.wide hB
  · clear hR hn hc h1
    go_wp2
    go_ret2
    exact ⟨hb1, .inl ⟨h2, rfl⟩⟩
  · have H2 := Lib.hid h2
    clear hR hn hc h2 h1
    go_wp2
    go_ret2
    exact ⟨hb1, .inr ⟨H2.out, A', c', rfl, ho⟩⟩
set_option maxHeartbeats 2000000 in
theorem putn_ok3 (A : Option Addr) (n c : Nat) (l : List Int) (hn : l.length = n) (hm : n ≤ 10000) (x : Nat) (hx : x < 256 ^ 3) (w : World) (hR : Reads w w.heap.size 1 A n (u8s l)) :
    Calls Try.prog 82 #[.slice A n c, .int .u64 x, .int .i64 3] w (PutPost w n l [(x, 3)]) := by
  have d : ((x : Int) / 16777216 != 0) = false := bne_eq_false_iff_eq.mpr (by omega)
  have hB := (Below.refl w.heap.size w).alloc (Nat.le_refl _) (.cells #[.int .u64 (x : Int), .int .i64 ((3 : Nat) : Int)] 146)
  have hc := put_any A n c l hn hm (some ⟨w.heap.size, 0, none⟩) 1 1 [(x, 3)] rfl (by omega) (by simp) (by simp; omega) (w.alloc (.cells #[.int .u64 (x : Int), .int .i64 ((3 : Nat) : Int)] 146)) ((hR.alloc (Nat.le_refl _) _).more hB.size) (by rw [World.size_alloc]; exact reads_one w (partCells [(x, 3)]) 146 2 rfl)
  clear hx
  go_enter Try.func82, Try.ntmps82
  go_wp2_with fail
  refine hc.mono ?_
  rintro en w1 h1
  obtain ⟨hb1, ⟨h2, rfl⟩ | ⟨h2, A', c', rfl, ho⟩⟩ := h1.wide hB
  · clear hR hn hc h1
    go_wp2
    go_ret2
    exact ⟨hb1, .inl ⟨h2, rfl⟩⟩
  · have H2 := Lib.hid h2
    clear hR hn hc h2 h1
    go_wp2
    go_ret2
    exact ⟨hb1, .inr ⟨H2.out, A', c', rfl, ho⟩⟩
set_option maxHeartbeats 2000000 in
theorem putn_ok4 (A : Option Addr) (n c : Nat) (l : List Int) (hn : l.length = n) (hm : n ≤ 10000) (x : Nat) (hx : x < 256 ^ 4) (w : World) (hR : Reads w w.heap.size 1 A n (u8s l)) :
    Calls Try.prog 82 #[.slice A n c, .int .u64 x, .int .i64 4] w (PutPost w n l [(x, 4)]) := by
  have d : ((x : Int) / 4294967296 != 0) = false := bne_eq_false_iff_eq.mpr (by omega)
  have hB := (Below.refl w.heap.size w).alloc (Nat.le_refl _) (.cells #[.int .u64 (x : Int), .int .i64 ((4 : Nat) : Int)] 146)
  have hc := put_any A n c l hn hm (some ⟨w.heap.size, 0, none⟩) 1 1 [(x, 4)] rfl (by omega) (by simp) (by simp; omega) (w.alloc (.cells #[.int .u64 (x : Int), .int .i64 ((4 : Nat) : Int)] 146)) ((hR.alloc (Nat.le_refl _) _).more hB.size) (by rw [World.size_alloc]; exact reads_one w (partCells [(x, 4)]) 146 2 rfl)
  clear hx
  go_enter Try.func82, Try.ntmps82
  go_wp2_with fail
  refine hc.mono ?_
  rintro en w1 h1
  obtain ⟨hb1, ⟨h2, rfl⟩ | ⟨h2, A', c', rfl, ho⟩⟩ := h1.wide hB
  · clear hR hn hc h1
    go_wp2
    go_ret2
    exact ⟨hb1, .inl ⟨h2, rfl⟩⟩
  · have H2 := Lib.hid h2
    clear hR hn hc h2 h1
    go_wp2
    go_ret2
    exact ⟨hb1, .inr ⟨H2.out, A', c', rfl, ho⟩⟩
set_option maxHeartbeats 2000000 in
theorem putn_ok5 (A : Option Addr) (n c : Nat) (l : List Int) (hn : l.length = n) (hm : n ≤ 10000) (x : Nat) (hx : x < 256 ^ 5) (w : World) (hR : Reads w w.heap.size 1 A n (u8s l)) :
    Calls Try.prog 82 #[.slice A n c, .int .u64 x, .int .i64 5] w (PutPost w n l [(x, 5)]) := by
  have d : ((x : Int) / 1099511627776 != 0) = false := bne_eq_false_iff_eq.mpr (by omega)
  have hB := (Below.refl w.heap.size w).alloc (Nat.le_refl _) (.cells #[.int .u64 (x : Int), .int .i64 ((5 : Nat) : Int)] 146)
  have hc := put_any A n c l hn hm (some ⟨w.heap.size, 0, none⟩) 1 1 [(x, 5)] rfl (by omega) (by simp) (by simp; omega) (w.alloc (.cells #[.int .u64 (x : Int), .int .i64 ((5 : Nat) : Int)] 146)) ((hR.alloc (Nat.le_refl _) _).more hB.size) (by rw [World.size_alloc]; exact reads_one w (partCells [(x, 5)]) 146 2 rfl)
  clear hx
  go_enter Try.func82, Try.ntmps82
  go_wp2_with fail
  refine hc.mono ?_
  rintro en w1 h1
  obtain ⟨hb1, ⟨h2, rfl⟩ | ⟨h2, A', c', rfl, ho⟩⟩ := h1.wide hB
  · clear hR hn hc h1
    go_wp2
    go_ret2
    exact ⟨hb1, .inl ⟨h2, rfl⟩⟩
  · have H2 := Lib.hid h2
    clear hR hn hc h2 h1
    go_wp2
    go_ret2
    exact ⟨hb1, .inr ⟨H2.out, A', c', rfl, ho⟩⟩
set_option maxHeartbeats 2000000 in
theorem putn_ok6 (A : Option Addr) (n c : Nat) (l : List Int) (hn : l.length = n) (hm : n ≤ 10000) (x : Nat) (hx : x < 256 ^ 6) (w : World) (hR : Reads w w.heap.size 1 A n (u8s l)) :
    Calls Try.prog 82 #[.slice A n c, .int .u64 x, .int .i64 6] w (PutPost w n l [(x, 6)]) := by
  have d : ((x : Int) / 281474976710656 != 0) = false := bne_eq_false_iff_eq.mpr (by omega)
  have hB := (Below.refl w.heap.size w).alloc (Nat.le_refl _) (.cells #[.int .u64 (x : Int), .int .i64 ((6 : Nat) : Int)] 146)
  have hc := put_any A n c l hn hm (some ⟨w.heap.size, 0, none⟩) 1 1 [(x, 6)] rfl (by omega) (by simp) (by simp; omega) (w.alloc (.cells #[.int .u64 (x : Int), .int .i64 ((6 : Nat) : Int)] 146)) ((hR.alloc (Nat.le_refl _) _).more hB.size) (by rw [World.size_alloc]; exact reads_one w (partCells [(x, 6)]) 146 2 rfl)
  clear hx
  go_enter Try.func82, Try.ntmps82
  go_wp2_with fail
  refine hc.mono ?_
  rintro en w1 h1
  obtain ⟨hb1, ⟨h2, rfl⟩ | ⟨h2, A', c', rfl, ho⟩⟩ := h1.wide hB
  · clear hR hn hc h1
    go_wp2
    go_ret2
    exact ⟨hb1, .inl ⟨h2, rfl⟩⟩
  · have H2 := Lib.hid h2
    clear hR hn hc h2 h1
    go_wp2
    go_ret2
    exact ⟨hb1, .inr ⟨H2.out, A', c', rfl, ho⟩⟩
set_option maxHeartbeats 2000000 in
theorem putn_ok7 (A : Option Addr) (n c : Nat) (l : List Int) (hn : l.length = n) (hm : n ≤ 10000) (x : Nat) (hx : x < 256 ^ 7) (w : World) (hR : Reads w w.heap.size 1 A n (u8s l)) :
    Calls Try.prog 82 #[.slice A n c, .int .u64 x, .int .i64 7] w (PutPost w n l [(x, 7)]) := by
  have d : ((x : Int) / 72057594037927936 != 0) = false := bne_eq_false_iff_eq.mpr (by omega)
  have hB := (Below.refl w.heap.size w).alloc (Nat.le_refl _) (.cells #[.int .u64 (x : Int), .int .i64 ((7 : Nat) : Int)] 146)
  have hc := put_any A n c l hn hm (some ⟨w.heap.size, 0, none⟩) 1 1 [(x, 7)] rfl (by omega) (by simp) (by simp; omega) (w.alloc (.cells #[.int .u64 (x : Int), .int .i64 ((7 : Nat) : Int)] 146)) ((hR.alloc (Nat.le_refl _) _).more hB.size) (by rw [World.size_alloc]; exact reads_one w (partCells [(x, 7)]) 146 2 rfl)
  clear hx
  go_enter Try.func82, Try.ntmps82
  go_wp2_with fail
  refine hc.mono ?_
  rintro en w1 h1
  obtain ⟨hb1, ⟨h2, rfl⟩ | ⟨h2, A', c', rfl, ho⟩⟩ := h1.wide hB
  · clear hR hn hc h1
    go_wp2
    go_ret2
    exact ⟨hb1, .inl ⟨h2, rfl⟩⟩
  · have H2 := Lib.hid h2
    clear hR hn hc h2 h1
    go_wp2
    go_ret2
    exact ⟨hb1, .inr ⟨H2.out, A', c', rfl, ho⟩⟩
set_option maxHeartbeats 2000000 in
theorem putn_ok8 (A : Option Addr) (n c : Nat) (l : List Int) (hn : l.length = n) (hm : n ≤ 10000) (x : Nat) (hx : x < 256 ^ 8) (w : World) (hR : Reads w w.heap.size 1 A n (u8s l)) :
    Calls Try.prog 82 #[.slice A n c, .int .u64 x, .int .i64 8] w (PutPost w n l [(x, 8)]) := by
  have hB := (Below.refl w.heap.size w).alloc (Nat.le_refl _) (.cells #[.int .u64 (x : Int), .int .i64 ((8 : Nat) : Int)] 146)
  have hc := put_any A n c l hn hm (some ⟨w.heap.size, 0, none⟩) 1 1 [(x, 8)] rfl (by omega) (by simp) (by simp; omega) (w.alloc (.cells #[.int .u64 (x : Int), .int .i64 ((8 : Nat) : Int)] 146)) ((hR.alloc (Nat.le_refl _) _).more hB.size) (by rw [World.size_alloc]; exact reads_one w (partCells [(x, 8)]) 146 2 rfl)
  clear hx
  go_enter Try.func82, Try.ntmps82
  go_wp2_with fail
  refine hc.mono ?_
  rintro en w1 h1
  obtain ⟨hb1, ⟨h2, rfl⟩ | ⟨h2, A', c', rfl, ho⟩⟩ := h1.wide hB
  · clear hR hn hc h1
    go_wp2
    go_ret2
    exact ⟨hb1, .inl ⟨h2, rfl⟩⟩
  · have H2 := Lib.hid h2
    clear hR hn hc h2 h1
    go_wp2
    go_ret2
    exact ⟨hb1, .inr ⟨H2.out, A', c', rfl, ho⟩⟩
theorem putn_any (A : Option Addr) (n c : Nat) (l : List Int) (hn : l.length = n) (hm : n ≤ 10000) (x s : Nat) (hs : okN x s) (w : World) (hR : Reads w w.heap.size 1 A n (u8s l)) :
    Calls Try.prog 82 #[.slice A n c, .int .u64 x, .int .i64 s] w (PutPost w n l [(x, s)]) := by
  obtain ⟨h1, h2, h3⟩ := hs
  have hc : s = 1 ∨ s = 2 ∨ s = 3 ∨ s = 4 ∨ s = 5 ∨ s = 6 ∨ s = 7 ∨ s = 8 := by omega
  rcases hc with rfl | rfl | rfl | rfl | rfl | rfl | rfl | rfl
  · exact putn_ok1 A n c l hn hm x h3 w hR
  · exact putn_ok2 A n c l hn hm x h3 w hR
  · exact putn_ok3 A n c l hn hm x h3 w hR
  · exact putn_ok4 A n c l hn hm x h3 w hR
  · exact putn_ok5 A n c l hn hm x h3 w hR
  · exact putn_ok6 A n c l hn hm x h3 w hR
  · exact putn_ok7 A n c l hn hm x h3 w hR
  · exact putn_ok8 A n c l hn hm x h3 w hR
/-- A dyad's parts. -/
def ptsD (neg : Bool) (l : List Int) (e : Int) : List (Nat × Nat) := ((if neg then 1 else 0), 1) :: (e.toNat, 2) :: (l.length, 1) :: l.map (fun x => (x.toNat, 4))
theorem total_map (l : List Int) : total (l.map (fun x => (x.toNat, 4))) = 4 * l.length := by
  induction l with
  | nil => rfl
  | cons x r ih => rw [List.map_cons, total, ih, List.length_cons]; omega
theorem total_pts (neg : Bool) (l : List Int) (e : Int) : total (ptsD neg l e) = 4 + 4 * l.length := by
  unfold ptsD
  rw [total, total, total, total_map]
  omega
theorem info57 : (Try.prog.info? 146).map (fun i => (i.zero, i.size, i.bytes)) = some (some (.agg #[.int .u64 0, .int .i64 0]), 2, 16) := by kernel_rfl
theorem map_snoc {l : List Int} {k : Nat} (h : k < l.length) : (l.take (k + 1)).map (fun x => (x.toNat, 4)) = (l.take k).map (fun x => (x.toNat, 4)) ++ [((l.getD k 0).toNat, 4)] := by
  rw [List.take_succ_eq_append_getElem h, List.map_append, List.getD_eq_getElem?_getD, List.getElem?_eq_getElem h]
  rfl
theorem own_blk {w : World} {g : Nat} {e : TypeId} {cs : List Value} (base size n : Nat) (hB : Blk w g e cs.toArray) (hb : base ≤ g) (hs : cs.length = n * size) (hm : n ≤ maxLen) : w.ownsRow base e size (.slice (some ⟨g, 0, none⟩) n n) n cs :=
  ⟨hs, .inr ⟨g, n, cs.toArray, rfl, hb, hB, Nat.le_refl _, hm, by simpa using hs, by rw [← hs]; simp⟩⟩
set_option maxRecDepth 100000 in
set_option maxHeartbeats 8000000 in
theorem putd_any (A : Option Addr) (n c : Nat) (b : List Int) (hn : b.length = n) (hm : n ≤ 10000) (neg : Bool) (L : Option Addr) (m lc : Nat) (l : List Int) (hl : l.length = m) (hl0 : ∀ x ∈ l, 0 ≤ x) (hl1 : ∀ x ∈ l, x < 4294967296) (e : Int) (hd : mayD neg l e = true) (w : World) (hR : Reads w w.heap.size 1 A n (u8s b)) (hL : Reads w w.heap.size 1 L m (u32s l)) :
    Calls Try.prog 83 #[.slice A n c, dy neg L m lc e] w (PutPost w n b (ptsD neg l e)) := by
  have hB := (Below.refl w.heap.size w).alloc (Nat.le_refl _) (.cells #[.bool neg, .slice L m lc, .int .i64 e] 24)
  have hbx := Blk.new w 24 #[.bool neg, .slice L m lc, .int .i64 e]
  have hc := dcheck_any neg L m lc l hl hl0 e _ ((hL.alloc (Nat.le_refl _) (.cells #[.bool neg, .slice L m lc, .int .i64 e] 24)).more hB.size)
  rw [hd] at hc
  have hm40 : m ≤ 40 ∧ 0 ≤ e ∧ e ≤ 1024 := by
    unfold mayD mayL at hd
    simp only [Bool.and_eq_true, decide_eq_true_eq] at hd
    omega
  obtain ⟨hm40, he0, he1⟩ := hm40
  clear hd
  obtain ⟨i0, hi0, hz0, hz1, hz2⟩ := info_parts info57
  have we : IntKind.u64.wrap e = e := IntWalk.u64_in _ (by omega)
  have wm : IntKind.u64.wrap (m : Int) = (m : Int) := IntWalk.u64_in _ (by omega)
  go_enter Try.func83, Try.ntmps83
  go_wp2_with fail
  refine hc.mono ?_
  rintro en w1 ⟨rfl, hb1⟩
  have hB1 := hB.trans (hb1.mono hB.size)
  have hbx1 := hbx.below hb1 (by rw [World.size_alloc]; exact Nat.lt_succ_self _)
  have k0 := hbx1.cell 0
  have k1 := hbx1.cell 1
  have k2 := hbx1.cell 2
  have f0 := hbx1.frozen 0
  have f1 := hbx1.frozen 1
  have f2 := hbx1.frozen 2
  have hlt := hbx1.lt
  have hL1 := hL.below hB1
  have hR1 := hR.below hB1
  have HL := Lib.hid hl
  have HN := Lib.hid hn
  clear hc hb1 hbx hbx1 hl hn
  obtain ⟨s, hs⟩ : ∃ s : Nat, (if neg then 1 else 0) = s := ⟨_, rfl⟩
  have hpts : ptsD neg l e = [(s, 1), (e.toNat, 2), (m, 1)] ++ l.map (fun x => (x.toNat, 4)) := by
    unfold ptsD
    rw [hs, HL.out]
    rfl
  have hpc : partCells [(s, 1), (e.toNat, 2), (m, 1)] = [.int .u64 (s : Int), .int .i64 1, .int .u64 e, .int .i64 2, .int .u64 (m : Int), .int .i64 1] := by
    simp only [partCells, Int.toNat_of_nonneg he0]
    rfl
  have hs1 : s ≤ 1 := by rw [← hs]; split <;> omega
  have hlen : (ptsD neg l e).length = 3 + m := by rw [hpts, List.length_append, List.length_map, HL.out]; rfl
  have hp8 : ∀ p ∈ ptsD neg l e, p.2 ≤ 8 := by
    rw [hpts]
    intro p hp
    rcases List.mem_append.mp hp with h | h
    · simp at h; rcases h with rfl | rfl | rfl <;> simp
    · simp only [List.mem_map] at h; obtain ⟨x, _, rfl⟩ := h; simp
  have hp64 : ∀ p ∈ ptsD neg l e, p.1 < 18446744073709551616 := by
    rw [hpts]
    intro p hp
    rcases List.mem_append.mp hp with h | h
    · simp at h; rcases h with rfl | rfl | rfl <;> simp <;> omega
    · simp only [List.mem_map] at h; obtain ⟨x, hx, rfl⟩ := h; have := hl1 x hx; simp; omega
  have hput := fun A' W h1 h2 pc => put_any A n c b HN.out hm A' (3 + m) pc (ptsD neg l e) hlen (by omega) hp8 hp64 W h1 h2
  rw [hpts] at hput
  obtain ⟨ps0, hps0⟩ : ∃ ps0 : List (Nat × Nat), [(s, 1), (e.toNat, 2), (m, 1)] = ps0 := ⟨_, rfl⟩
  rw [hps0] at hpc hput hpts
  have hl0 := Lib.hid hl0
  have hl1 := Lib.hid hl1
  replace hpts := Lib.hid hpts
  replace hpc := Lib.hid hpc
  replace hput := Lib.hid hput
  clear hps0 hp8 hp64 hlen
  cases neg
  · obtain rfl : 0 = s := hs
    go_wp2
    go_loopw [6, 31] (fun o i wr => ∃ (k r : Nat) (Ap : Option Addr) (cp : Nat), k ≤ m ∧ i = .int .i64 k ∧ o = .slice Ap r cp ∧ r = 3 + k ∧ wr.ownsRow w.heap.size 146 2 (.slice Ap r cp) r (partCells (ps0 ++ (l.take k).map (fun x => (x.toNat, 4)))) ∧ Below w.heap.size w wr) (fun _ i _ => m - (intOf i).toNat)
    case atStart =>
      refine ⟨0, 3, _, 3, by omega, rfl, rfl, rfl, ?_, hB1.alloc hB1.size _⟩
      rw [List.take_zero, List.map_nil, List.append_nil, hpc.out]
      exact own_blk w.heap.size 2 3 (Blk.new w1 146 _) hB1.size rfl (by unfold maxLen; omega)
    case round =>
      clear hB1 k0 k1 k2 f0 f1 f2
      obtain ⟨k, r, Ap, cp, hk, rfl, rfl, hr, ho, hZ⟩ := hrel
      have hr1 : r ≤ 43 := by omega
      replace hr := Lib.hid hr
      by_cases hlt : k < m
      · obtain ⟨ad, hA, hab, cA⟩ := at_u32 HL.out (hL.below hZ) hlt
        subst hA
        have hsn := Lib.hid (map_snoc (l := l) (k := k) (by rw [HL.out]; exact hlt))
        have hmem : l.getD k 0 ∈ l := by rw [List.getD_eq_getElem?_getD, List.getElem?_eq_getElem (by rw [HL.out]; exact hlt)]; exact List.getElem_mem _
        have hx0 := hl0.out _ hmem
        have hx1 := hl1.out _ hmem
        clear hmem
        obtain ⟨x, hx⟩ : ∃ x, l.getD k 0 = x := ⟨_, rfl⟩
        rw [hx] at cA hx0 hx1 hsn
        have wx : IntKind.u64.wrap x = x := IntWalk.u64_in _ (by omega)
        have i1 : (0 : Int) ≤ k := by omega
        have i2 : (k : Int) < m := by omega
        obtain ⟨Q, hQ⟩ : ∃ Q : List Value, partCells (ps0 ++ (l.take k).map (fun x => (x.toNat, 4))) = Q := ⟨_, rfl⟩
        rw [hQ] at ho
        replace hQ := Lib.hid hQ
        clear hx hR hL hR1 hL1
        go_wp2_with (at_builtin; refine wpList_push rfl (.tmp 35) (.tmp 39) _ rfl w.heap.size 146 i0 _ 2 16 Try.underlying147 hi0 hz0 hz1 hz2 rfl (by omega) hZ (Nat.le_refl _) (.slice Ap r cp) r Q rfl ho [.int .u64 x, .int .i64 4] rfl (by simp [Value.oneCell']) rfl (by unfold maxLen; omega) (by omega) ?_; intro v' w' ho' hB'; obtain ⟨A', c', rfl, _, _⟩ := own_slice ho')
        have e1 : Q ++ [.int .u64 x, .int .i64 4] = partCells (ps0 ++ (l.take (k + 1)).map (fun x => (x.toNat, 4))) := by
          rw [hsn.out, ← List.append_assoc, parts_app, ← hQ.out]
          simp [partCells, Int.toNat_of_nonneg hx0]
        rw [e1] at ho'
        replace e1 := Lib.hid e1
        go_roundw
        case rel => exact ⟨k + 1, r + 1, A', c', by omega, by go_num, rfl, by rw [hr.out]; omega, ho', hB'⟩
        case measure => simp [intOf] <;> omega
      · obtain rfl : k = m := by omega
        rw [List.take_of_length_le (by rw [HL.out]; exact Nat.le_refl _)] at ho
        have hr' := hr.out
        obtain ⟨A', c', e', _, hRd⟩ := own_slice ho
        injection e' with e1 e2 e3
        subst e1
        subst hr'
        have hput' := hput.out Ap wr ((hR.below hZ).more hZ.size) hRd cp
        clear hR hL hR1 hL1 ho hRd hput e2 e3 hpc hl0 hl1 HL HN hi0 hz0 hz1 hz2 we wm hr hB hs1 he0 he1
        have d : decide ((k : Int) < k) = false := by simp
        clear hlt hk
        go_wp2_with fail
        refine hput'.mono ?_
        rintro en w3 h3
        have h4 := h3.wide hZ
        clear hput' h3
        obtain ⟨hb1, ⟨h2, rfl⟩ | ⟨h2, A2, c2, rfl, ho2⟩⟩ := h4
        · replace h2 := Lib.hid h2
          go_wp2
          go_ret2
          rw [hpts.out]
          exact ⟨hb1, .inl ⟨h2.out, rfl⟩⟩
        · replace h2 := Lib.hid h2
          go_wp2
          go_ret2
          rw [hpts.out]
          exact ⟨hb1, .inr ⟨h2.out, A2, c2, rfl, ho2⟩⟩
  · obtain rfl : 1 = s := hs
    go_wp2
    go_loopw [6, 31] (fun o i wr => ∃ (k r : Nat) (Ap : Option Addr) (cp : Nat), k ≤ m ∧ i = .int .i64 k ∧ o = .slice Ap r cp ∧ r = 3 + k ∧ wr.ownsRow w.heap.size 146 2 (.slice Ap r cp) r (partCells (ps0 ++ (l.take k).map (fun x => (x.toNat, 4)))) ∧ Below w.heap.size w wr) (fun _ i _ => m - (intOf i).toNat)
    case atStart =>
      refine ⟨0, 3, _, 3, by omega, rfl, rfl, rfl, ?_, hB1.alloc hB1.size _⟩
      rw [List.take_zero, List.map_nil, List.append_nil, hpc.out]
      exact own_blk w.heap.size 2 3 (Blk.new w1 146 _) hB1.size rfl (by unfold maxLen; omega)
    case round =>
      clear hB1 k0 k1 k2 f0 f1 f2
      obtain ⟨k, r, Ap, cp, hk, rfl, rfl, hr, ho, hZ⟩ := hrel
      have hr1 : r ≤ 43 := by omega
      replace hr := Lib.hid hr
      by_cases hlt : k < m
      · obtain ⟨ad, hA, hab, cA⟩ := at_u32 HL.out (hL.below hZ) hlt
        subst hA
        have hsn := Lib.hid (map_snoc (l := l) (k := k) (by rw [HL.out]; exact hlt))
        have hmem : l.getD k 0 ∈ l := by rw [List.getD_eq_getElem?_getD, List.getElem?_eq_getElem (by rw [HL.out]; exact hlt)]; exact List.getElem_mem _
        have hx0 := hl0.out _ hmem
        have hx1 := hl1.out _ hmem
        clear hmem
        obtain ⟨x, hx⟩ : ∃ x, l.getD k 0 = x := ⟨_, rfl⟩
        rw [hx] at cA hx0 hx1 hsn
        have wx : IntKind.u64.wrap x = x := IntWalk.u64_in _ (by omega)
        have i1 : (0 : Int) ≤ k := by omega
        have i2 : (k : Int) < m := by omega
        obtain ⟨Q, hQ⟩ : ∃ Q : List Value, partCells (ps0 ++ (l.take k).map (fun x => (x.toNat, 4))) = Q := ⟨_, rfl⟩
        rw [hQ] at ho
        replace hQ := Lib.hid hQ
        clear hx hR hL hR1 hL1
        go_wp2_with (at_builtin; refine wpList_push rfl (.tmp 35) (.tmp 39) _ rfl w.heap.size 146 i0 _ 2 16 Try.underlying147 hi0 hz0 hz1 hz2 rfl (by omega) hZ (Nat.le_refl _) (.slice Ap r cp) r Q rfl ho [.int .u64 x, .int .i64 4] rfl (by simp [Value.oneCell']) rfl (by unfold maxLen; omega) (by omega) ?_; intro v' w' ho' hB'; obtain ⟨A', c', rfl, _, _⟩ := own_slice ho')
        have e1 : Q ++ [.int .u64 x, .int .i64 4] = partCells (ps0 ++ (l.take (k + 1)).map (fun x => (x.toNat, 4))) := by
          rw [hsn.out, ← List.append_assoc, parts_app, ← hQ.out]
          simp [partCells, Int.toNat_of_nonneg hx0]
        rw [e1] at ho'
        replace e1 := Lib.hid e1
        go_roundw
        case rel => exact ⟨k + 1, r + 1, A', c', by omega, by go_num, rfl, by rw [hr.out]; omega, ho', hB'⟩
        case measure => simp [intOf] <;> omega
      · obtain rfl : k = m := by omega
        rw [List.take_of_length_le (by rw [HL.out]; exact Nat.le_refl _)] at ho
        have hr' := hr.out
        obtain ⟨A', c', e', _, hRd⟩ := own_slice ho
        injection e' with e1 e2 e3
        subst e1
        subst hr'
        have hput' := hput.out Ap wr ((hR.below hZ).more hZ.size) hRd cp
        clear hR hL hR1 hL1 ho hRd hput e2 e3 hpc hl0 hl1 HL HN hi0 hz0 hz1 hz2 we wm hr hB hs1 he0 he1
        have d : decide ((k : Int) < k) = false := by simp
        clear hlt hk
        go_wp2_with fail
        refine hput'.mono ?_
        rintro en w3 h3
        have h4 := h3.wide hZ
        clear hput' h3
        obtain ⟨hb1, ⟨h2, rfl⟩ | ⟨h2, A2, c2, rfl, ho2⟩⟩ := h4
        · replace h2 := Lib.hid h2
          go_wp2
          go_ret2
          rw [hpts.out]
          exact ⟨hb1, .inl ⟨h2.out, rfl⟩⟩
        · replace h2 := Lib.hid h2
          go_wp2
          go_ret2
          rw [hpts.out]
          exact ⟨hb1, .inr ⟨h2.out, A2, c2, rfl, ho2⟩⟩
end Go.Proofs.Ytjmhefkmpfkpbaa
