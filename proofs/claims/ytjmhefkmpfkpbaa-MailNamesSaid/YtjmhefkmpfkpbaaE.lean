/- Field: the contract of Number. -/
import Derived.Test.YtjmhefkmpfkpbaaD
namespace Go.Proofs.Ytjmhefkmpfkpbaa
open Go.ChangeShapes Go.WideShapes Go.ChangeAt Go.RowKit
set_option linter.unusedSimpArgs false
set_option linter.unusedVariables false
theorem below_num {w w1 w2 : World} {g i : Nat} {u : Value} (h : Below w.heap.size w w1) (hg : w.heap.size ≤ g) (h2 : ∃ m, w2 = (w1.drewN m).setCell ⟨g, i, none⟩ u) : Below w.heap.size w w2 := by
  obtain ⟨m, rfl⟩ := h2
  exact (below_drewN h m).setCell hg _
theorem blk_num {w1 w2 : World} {g i b : Nat} {t : TypeId} {cs : Array Value} {u : Value} (h : Blk w1 b t cs) (hg : b ≠ g) (h2 : ∃ m, w2 = (w1.drewN m).setCell ⟨g, i, none⟩ u) : Blk w2 b t cs := by
  obtain ⟨m, rfl⟩ := h2
  exact (h.drewN m).far hg u
set_option maxRecDepth 100000 in
set_option maxHeartbeats 8000000 in
theorem num_short (A : Option Addr) (n c : Nat) (hm : n ≤ 100000) (p s : Nat) (h1 : 1 ≤ s) (h8 : s ≤ 8) (hpn : p ≤ n) (hs : n < p + s) (w : World) :
    Calls Try.prog 67 #[rst A n c (p : Int), .int .i64 (s : Int)] w fun en w' => en = .returned (.tuple #[rst none 0 0 0, .int .u64 0, .int .i64 40]) ∧ Below w.heap.size w w' := by
  have d1 : decide ((s : Int) < 1) = false := decide_eq_false (by omega)
  have d2 : decide ((8 : Int) < (s : Int)) = false := decide_eq_false (by omega)
  have hp : rdrE n (p : Int) = 0 := if_pos ⟨by omega, by omega⟩
  have hB0 := ((Below.refl w.heap.size w).alloc (Nat.le_refl _) (.cells #[.slice A n c, .int .i64 p] 67)).alloc (by rw [World.size_alloc]; omega) (.cells #[.slice none 0 0, .int .i64 0] 67)
  have hr0 := Blk.new (w.alloc (.cells #[.slice A n c, .int .i64 p] 67)) 67 #[.slice none 0 0, .int .i64 0]
  rw [World.size_alloc] at hr0
  go_enter Try.func67, Try.ntmps67
  go_wp2_with fail
  refine (of_any A n c p _).mono ?_
  rintro en w1 ⟨g, rfl, hg, hk, hb1⟩
  have hB1 := hB0.trans (hb1.mono hB0.size)
  have hr1 := hr0.below hb1 hr0.lt
  have hgr : w.heap.size + 1 < g := Nat.lt_of_lt_of_le hr0.lt hg
  have hgw : w.heap.size ≤ g := by omega
  clear hb1 hr0 hB0 hg
  rw [hp] at hk
  clear hp
  have a0 := hk.cell 0
  have a1 := hk.cell 1
  have a2 := hk.cell 2
  go_wp2_with fail
  refine (number_short g A n c p s (by omega) (by omega) hm (by omega) _ hk).mono ?_
  rintro en w2 ⟨rfl, hk2, hm2⟩
  have hr2 := blk_num hr1 (by omega) hm2
  have hB2 := below_num hB1 hgw hm2
  clear hm2 a0 a1 a2 hk hr1 hB1
  have a0 := hk2.cell 0
  have a1 := hk2.cell 1
  have a2 := hk2.cell 2
  have r0 := hr2.cell 0
  have r1 := hr2.cell 1
  have rf0 := hr2.frozen 0
  have rf1 := hr2.frozen 1
  have hl1 := hr2.lt
  go_wp2_with fail
  go_region
  go_wp2
  have K := ((hr2).set_ 0 (.slice none 0 0)).set_ 1 (.int .i64 0)
  have q0 := K.cell 0
  have q1 := K.cell 1
  simp at q0 q1
  refine bodyPost_ret (v := .tuple #[rst none 0 0 0, .int .u64 0, .int .i64 40]) (by simp [results, Try.results15, go_sem, q0, q1]) rfl ⟨rfl, ?_⟩
  exact (((hB2).setCell (p := ⟨w.heap.size + 1, 0, none⟩) (by show w.heap.size ≤ w.heap.size + 1; omega) _).setCell (p := ⟨w.heap.size + 1, 1, none⟩) (by show w.heap.size ≤ w.heap.size + 1; omega) _).drew
set_option maxRecDepth 100000 in
set_option maxHeartbeats 8000000 in
theorem num_ok (A : Option Addr) (n c : Nat) (l : List Int) (hn : l.length = n) (hb : ∀ b ∈ l, 0 ≤ b ∧ b < 256) (hm : n ≤ 100000) (hnc : n ≤ c) (p s : Nat) (h1 : 1 ≤ s) (h8 : s ≤ 8) (hps : p + s ≤ n) (w : World) (hR : Reads w w.heap.size 1 A n (u8s l)) :
    Calls Try.prog 67 #[rst A n c (p : Int), .int .i64 (s : Int)] w fun en w' => en = .returned (.tuple #[rst A n c ((p + s : Nat) : Int), .int .u64 (numI ((l.drop p).take s)), .int .i64 0]) ∧ Below w.heap.size w w' := by
  have d1 : decide ((s : Int) < 1) = false := decide_eq_false (by omega)
  have d2 : decide ((8 : Int) < (s : Int)) = false := decide_eq_false (by omega)
  have hp : rdrE n (p : Int) = 0 := if_pos ⟨by omega, by omega⟩
  have hB0 := ((Below.refl w.heap.size w).alloc (Nat.le_refl _) (.cells #[.slice A n c, .int .i64 p] 67)).alloc (by rw [World.size_alloc]; omega) (.cells #[.slice none 0 0, .int .i64 0] 67)
  have hr0 := Blk.new (w.alloc (.cells #[.slice A n c, .int .i64 p] 67)) 67 #[.slice none 0 0, .int .i64 0]
  rw [World.size_alloc] at hr0
  go_enter Try.func67, Try.ntmps67
  go_wp2_with fail
  refine (of_any A n c p _).mono ?_
  rintro en w1 ⟨g, rfl, hg, hk, hb1⟩
  have hB1 := hB0.trans (hb1.mono hB0.size)
  have hr1 := hr0.below hb1 hr0.lt
  have hgr : w.heap.size + 1 < g := Nat.lt_of_lt_of_le hr0.lt hg
  have hgw : w.heap.size ≤ g := by omega
  have hRg := (hR.below hB1).more hgw
  clear hb1 hr0 hB0 hg
  rw [hp] at hk
  clear hp
  have a0 := hk.cell 0
  have a1 := hk.cell 1
  have a2 := hk.cell 2
  go_wp2_with fail
  refine (number_ok g A n c l hn hb hm hnc p s h1 h8 hps _ hk hRg).mono ?_
  rintro en w2 ⟨rfl, hk2, hm2⟩
  have hr2 := blk_num hr1 (by omega) hm2
  have hB2 := below_num hB1 hgw hm2
  clear hm2 a0 a1 a2 hk hr1 hB1 hR hRg hn hb
  obtain ⟨N, hN⟩ : ∃ N, numI ((l.drop p).take s) = N := ⟨_, rfl⟩
  rw [hN]
  obtain ⟨q, hq⟩ : ∃ q : Int, ((p + s : Nat) : Int) = q := ⟨_, rfl⟩
  rw [hq] at hk2
  replace hN := Lib.hid hN
  replace hq := Lib.hid hq
  have a0 := hk2.cell 0
  have a1 := hk2.cell 1
  have a2 := hk2.cell 2
  have r0 := hr2.cell 0
  have r1 := hr2.cell 1
  have rf0 := hr2.frozen 0
  have rf1 := hr2.frozen 1
  have hl1 := hr2.lt
  go_wp2
  have e1 := hN.out
  have e2 := hq.out
  subst e1
  subst e2
  have K := ((hr2).set_ 0 (.slice A n c)).set_ 1 (.int .i64 ((p + s : Nat) : Int))
  have q0 := K.cell 0
  have q1 := K.cell 1
  simp at q0 q1
  refine bodyPost_ret (v := .tuple #[rst A n c ((p + s : Nat) : Int), .int .u64 (numI ((l.drop p).take s)), .int .i64 0]) (by simp [results, Try.results15, go_sem, q0, q1]) rfl ⟨rfl, ?_⟩
  exact (hB2.setCell (p := ⟨w.heap.size + 1, 0, none⟩) (by show w.heap.size ≤ w.heap.size + 1; omega) _).setCell (p := ⟨w.heap.size + 1, 1, none⟩) (by show w.heap.size ≤ w.heap.size + 1; omega) _
end Go.Proofs.Ytjmhefkmpfkpbaa
