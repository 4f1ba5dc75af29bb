/- Ether: the copy of a place. -/
import Derived.Test.YtbiodoeimbfbnaaF
import Derived.Test.YtbiodoeimbfbnaaC2
namespace Go.Proofs.Ytbiodoeimbfbnaa
open Go.ChangeShapes Go.WideShapes Go.ChangeAt Go.RowKit
set_option linter.unusedSimpArgs false
set_option linter.unusedVariables false
abbrev zeroC : Value := .agg #[.int .i64 0, .int .i64 0, .slice none 0 0, .bool false]
set_option maxHeartbeats 4000000 in
theorem at_err (A : Option Addr) (n c : Nat) (l : List Cp) (i : Int) (hm : n ≤ 10000) (E : Int) (hE : chkE l = E) (hE0 : E ≠ 0) (w : World) (h1 : Cps w w.heap.size A n l) :
    Calls Try.prog 24 #[.slice A n c, .int .i64 i] w fun en w' => en = .returned (.tuple #[zeroC, .int .i64 E]) ∧ Below w.heap.size w w' := by
  have hB1 := (Below.refl w.heap.size w).alloc (Nat.le_refl _) (.cells #[.int .i64 0, .int .i64 0, .slice none 0 0, .bool false] 25)
  have hck := check_any A n c l hm E hE (w.alloc (.cells #[.int .i64 0, .int .i64 0, .slice none 0 0, .bool false] 25)) ((h1.below hB1).more hB1.size)
  have hk := Blk.new w 25 #[.int .i64 0, .int .i64 0, .slice none 0 0, .bool false]
  have t1 : (E != 0) = true := bne_iff_ne.2 hE0
  clear hE hE0 h1
  go_enter Try.func24, Try.ntmps24
  go_wp2_with fail
  refine hck.mono ?_
  rintro en w1 ⟨rfl, hb1⟩
  have kb := hk.below hb1 hk.lt
  have hb := hB1.trans (hb1.mono hB1.size)
  have k0 := kb.cell 0
  have k1 := kb.cell 1
  have k2 := kb.cell 2
  have k3 := kb.cell 3
  simp at k0 k1 k2 k3
  have f0 := kb.frozen 0
  have f1 := kb.frozen 1
  have f2 := kb.frozen 2
  have f3 := kb.frozen 3
  have ks := kb.lt
  clear hck hb1 hB1 hk
  go_wp2
  refine bodyPost_ret (v := .tuple #[zeroC, .int .i64 E]) ?_ rfl ⟨rfl, ?_⟩
  · simp [results, Try.f24, go_sem, k0, k1, k2, k3, f0, f1, f2, f3]
  · exact ((((hb.setCell (p := ⟨w.heap.size, 0, none⟩) (Nat.le_refl _) _).setCell (p := ⟨w.heap.size, 1, none⟩) (Nat.le_refl _) _).setCell (p := ⟨w.heap.size, 2, none⟩) (Nat.le_refl _) _).setCell (p := ⟨w.heap.size, 3, none⟩) (Nat.le_refl _) _)

set_option maxHeartbeats 4000000 in
theorem at_arg (A : Option Addr) (n c : Nat) (l : List Cp) (i : Int) (hm : n ≤ 10000) (hE : chkE l = 0) (hi : i < 0 ∨ (n : Int) ≤ i) (w : World) (h1 : Cps w w.heap.size A n l) :
    Calls Try.prog 24 #[.slice A n c, .int .i64 i] w fun en w' => en = .returned (.tuple #[zeroC, .int .i64 2]) ∧ Below w.heap.size w w' := by
  obtain ⟨E, hE'⟩ : ∃ E : Int, E = 0 := ⟨_, rfl⟩
  rw [← hE'] at hE
  have hB1 := (Below.refl w.heap.size w).alloc (Nat.le_refl _) (.cells #[.int .i64 0, .int .i64 0, .slice none 0 0, .bool false] 25)
  have hck := check_any A n c l hm E hE (w.alloc (.cells #[.int .i64 0, .int .i64 0, .slice none 0 0, .bool false] 25)) ((h1.below hB1).more hB1.size)
  have hk := Blk.new w 25 #[.int .i64 0, .int .i64 0, .slice none 0 0, .bool false]
  subst hE'
  clear hE h1
  by_cases hi0 : i < 0
  · have t1 : decide (i < 0) = true := decide_eq_true hi0
    clear hi hi0
    go_enter Try.func24, Try.ntmps24
    go_wp2_with fail
    refine hck.mono ?_
    rintro en w1 ⟨rfl, hb1⟩
    have kb := hk.below hb1 hk.lt
    have hb := hB1.trans (hb1.mono hB1.size)
    have k0 := kb.cell 0
    have k1 := kb.cell 1
    have k2 := kb.cell 2
    have k3 := kb.cell 3
    simp at k0 k1 k2 k3
    have f0 := kb.frozen 0
    have f1 := kb.frozen 1
    have f2 := kb.frozen 2
    have f3 := kb.frozen 3
    have ks := kb.lt
    clear hck hb1 hB1 hk
    go_wp2
    refine bodyPost_ret (v := .tuple #[zeroC, .int .i64 2]) ?_ rfl ⟨rfl, ?_⟩
    · simp [results, Try.f24, go_sem, k0, k1, k2, k3, f0, f1, f2, f3]
    · exact ((((hb.setCell (p := ⟨w.heap.size, 0, none⟩) (Nat.le_refl _) _).setCell (p := ⟨w.heap.size, 1, none⟩) (Nat.le_refl _) _).setCell (p := ⟨w.heap.size, 2, none⟩) (Nat.le_refl _) _).setCell (p := ⟨w.heap.size, 3, none⟩) (Nat.le_refl _) _)
  · have t1 : decide (i < 0) = false := decide_eq_false hi0
    have t2 : decide ((n : Int) ≤ i) = true := decide_eq_true (by omega)
    clear hi hi0
    go_enter Try.func24, Try.ntmps24
    go_wp2_with fail
    refine hck.mono ?_
    rintro en w1 ⟨rfl, hb1⟩
    have kb := hk.below hb1 hk.lt
    have hb := hB1.trans (hb1.mono hB1.size)
    have k0 := kb.cell 0
    have k1 := kb.cell 1
    have k2 := kb.cell 2
    have k3 := kb.cell 3
    simp at k0 k1 k2 k3
    have f0 := kb.frozen 0
    have f1 := kb.frozen 1
    have f2 := kb.frozen 2
    have f3 := kb.frozen 3
    have ks := kb.lt
    clear hck hb1 hB1 hk
    go_wp2
    refine bodyPost_ret (v := .tuple #[zeroC, .int .i64 2]) ?_ rfl ⟨rfl, ?_⟩
    · simp [results, Try.f24, go_sem, k0, k1, k2, k3, f0, f1, f2, f3]
    · exact ((((hb.setCell (p := ⟨w.heap.size, 0, none⟩) (Nat.le_refl _) _).setCell (p := ⟨w.heap.size, 1, none⟩) (Nat.le_refl _) _).setCell (p := ⟨w.heap.size, 2, none⟩) (Nat.le_refl _) _).setCell (p := ⟨w.heap.size, 3, none⟩) (Nat.le_refl _) _)

set_option maxHeartbeats 4000000 in
theorem at_ok (A : Option Addr) (n c : Nat) (l : List Cp) (k : Nat) (hm : n ≤ 10000) (hE : chkE l = 0) (hk : k < n) (w : World) (h1 : Cps w w.heap.size A n l) :
    ∃ num dn txt sp X m d, l[k]? = some ⟨num, dn, txt, sp⟩ ∧ txt.length = m ∧ m ≤ d ∧ Reads w w.heap.size 1 X m (ints .u8 txt) ∧
    Calls Try.prog 24 #[.slice A n c, .int .i64 (k : Int)] w fun en w' => en = .returned (.tuple #[.agg #[.int .i64 num, .int .i64 dn, .slice X m d, .bool sp], .int .i64 0]) ∧ Below w.heap.size w w' := by
  obtain ⟨ad, num, dn, txt, sp, X, m, d, rfl, hb1, hl1, hx1, hxd1, hrel1⟩ := cps_rel h1 hk
  refine ⟨num, dn, txt, sp, X, m, d, hl1, hx1, hxd1, (hrel1 w (Below.refl _ _)).1, ?_⟩
  obtain ⟨E, hE'⟩ : ∃ E : Int, E = 0 := ⟨_, rfl⟩
  rw [← hE'] at hE
  have hkn := hk
  clear hk
  obtain ⟨A, hA⟩ : ∃ A, A = some ad := ⟨_, rfl⟩
  rw [← hA] at h1
  have hB1 := (Below.refl w.heap.size w).alloc (Nat.le_refl _) (.cells #[.int .i64 0, .int .i64 0, .slice none 0 0, .bool false] 25)
  have hck := check_any A n c l hm E hE (w.alloc (.cells #[.int .i64 0, .int .i64 0, .slice none 0 0, .bool false] 25)) ((h1.below hB1).more hB1.size)
  have hk := Blk.new w 25 #[.int .i64 0, .int .i64 0, .slice none 0 0, .bool false]
  subst hE' hA
  have t1 : decide ((k : Int) < 0) = false := decide_eq_false (by omega)
  have t2 : decide ((n : Int) ≤ k) = false := decide_eq_false (by omega)
  have t3 : decide (n ≤ k) = false := decide_eq_false (by omega)
  have i1 : (0 : Int) ≤ k := by omega
  have i2 : (k : Int) < n := by omega
  have hrelW := fun w' h => (hrel1 w' h).2
  clear hE h1 hrel1 hl1 hx1
  go_enter Try.func24, Try.ntmps24
  go_wp2_with fail
  refine hck.mono ?_
  rintro en w1 ⟨rfl, hb1⟩
  have kb := hk.below hb1 hk.lt
  have hb := hB1.trans (hb1.mono hB1.size)
  have k0 := kb.cell 0
  have k1 := kb.cell 1
  have k2 := kb.cell 2
  have k3 := kb.cell 3
  simp at k0 k1 k2 k3
  have f0 := kb.frozen 0
  have f1 := kb.frozen 1
  have f2 := kb.frozen 2
  have f3 := kb.frozen 3
  have ks := kb.lt
  obtain ⟨a0, a1, a2, a3⟩ := hrelW w1 hb
  clear hck hb1 hB1 hk hrelW
  go_wp2
  refine bodyPost_ret (v := .tuple #[.agg #[.int .i64 num, .int .i64 dn, .slice X m d, .bool sp], .int .i64 0]) ?_ rfl ⟨rfl, ?_⟩
  · simp [results, Try.f24, go_sem, k0, k1, k2, k3, f0, f1, f2, f3]
  · exact ((((hb.setCell (p := ⟨w.heap.size, 0, none⟩) (Nat.le_refl _) _).setCell (p := ⟨w.heap.size, 1, none⟩) (Nat.le_refl _) _).setCell (p := ⟨w.heap.size, 2, none⟩) (Nat.le_refl _) _).setCell (p := ⟨w.heap.size, 3, none⟩) (Nat.le_refl _) _)
end Go.Proofs.Ytbiodoeimbfbnaa
