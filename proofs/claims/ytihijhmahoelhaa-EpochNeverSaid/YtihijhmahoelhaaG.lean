/- Epoch: the helper 'ticked' of the laws: some ticks, one behind the other. -/
import Derived.Test.YtihijhmahoelhaaD
import Derived.Test.YtihijhmahoelhaaKit2
import Derived.Deep.LoopGhost
namespace Go.Proofs.Ytihijhmahoelhaa
open Go.ChangeShapes Go.WideShapes Go.ChangeAt Go.RowKit
set_option linter.unusedSimpArgs false

/-- n ticks: the clock, how often its epoch turned, and whether no tick was an error. -/
def K.ticks : Nat → K → Int → K × Int × Bool
  | 0, c, t => (c, t, true)
  | n + 1, c, t => if c.tick.2.2 = 0 then K.ticks n c.tick.1 (if c.tick.2.1 then t + 1 else t) else (c, t, false)
abbrev K.cells (c : K) : Array Value := #[.int .i64 c.l, .int .i64 c.t, .int .i64 c.s, .int .i64 c.e, .int .i64 c.f]
theorem blk_store {w : World} {g : Nat} {t : TypeId} {c d : K} (h : Blk w g t c.cells) :
    Blk (((((w.setCell ⟨g, 0, none⟩ (.int .i64 d.l)).setCell ⟨g, 1, none⟩ (.int .i64 d.t)).setCell ⟨g, 2, none⟩ (.int .i64 d.s)).setCell ⟨g, 3, none⟩ (.int .i64 d.e)).setCell ⟨g, 4, none⟩ (.int .i64 d.f)) g t d.cells := by
  have := ((((h.set_ 0 (.int .i64 d.l)).set_ 1 (.int .i64 d.t)).set_ 2 (.int .i64 d.s)).set_ 3 (.int .i64 d.e)).set_ 4 (.int .i64 d.f)
  simpa using this
set_option maxHeartbeats 2000000 in
theorem ticked_loop (c : K) (n : Int) (hn : n ≤ 1000000) (w : World) :
    Calls Try.prog 22 #[clk c.l c.t c.s c.e c.f, .int .i64 n] w fun en w' => en = .returned (.tuple #[(K.ticks n.toNat c 0).1.v, .int .i64 (K.ticks n.toNat c 0).2.1, .bool (K.ticks n.toNat c 0).2.2]) ∧ Below w.heap.size w w' := by
  go_enter Try.func22, Try.ntmps22
  go_wp2_with fail
  go_loopw [7, 8] (fun u i wr => ∃ (k : Nat) (d : K) (t : Int), i = .int .i64 k ∧ u = .int .i64 t ∧ 0 ≤ t ∧ t ≤ k ∧ (k : Int) ≤ max n 0 ∧ K.ticks (n.toNat - k) d t = K.ticks n.toNat c 0 ∧
      Blk wr w.heap.size 23 d.cells ∧ Blk wr (w.heap.size + 1) 23 K.zero.cells ∧ Below w.heap.size w wr) (fun _ i _ => n.toNat - (intOf i).toNat)
  case atStart => 
    exact ⟨0, c, 0, rfl, rfl, by omega, by omega, by omega, rfl, (Blk.new w 23 c.cells).alloc _, (by have h := Blk.new (w.alloc (.cells c.cells 23)) 23 K.zero.cells; simp only [World.size_alloc] at h; exact h), ((Below.refl _ w).alloc (Nat.le_refl _) _).alloc (by simp) _⟩
  case round =>
    obtain ⟨k, d, t, rfl, rfl, ht0, htk, hkn, hT, hB, hR, hBel⟩ := hrel
    have cB := hB.cell
    have fB := hB.frozen
    have cR := hR.cell
    have fR := hR.frozen
    have lB := hB.lt
    have lR := hR.lt
    have HT := Lib.hid hT
    clear hT
    by_cases hlt : (k : Int) < n
    · by_cases he : d.tick.2.2 = 0
      · have he' : (d.tick.2.2 != 0) = false := by simpa using he
        have hs : K.ticks (n.toNat - k) d t = K.ticks (n.toNat - (k + 1)) d.tick.1 (if d.tick.2.1 then t + 1 else t) := by
          rw [show n.toNat - k = n.toNat - (k + 1) + 1 by omega, K.ticks, if_pos he]
        have HS := Lib.hid hs
        clear hs he
        by_cases ht : d.tick.2.1 = true
        all_goals
          go_wp2_with (go_at_call 11; refine (tick_any d _).mono ?_; rintro en w1 ⟨rfl, hb1⟩; have hz1 := hb1.size; have cB1 : ∀ o, w1.cell? ⟨w.heap.size, o, none⟩ = _ := fun o => hb1.cell (p := ⟨w.heap.size, o, none⟩) lB; (try simp [cB] at cB1); have fB1 : ∀ o, w1.frozen? ⟨w.heap.size, o, none⟩ = _ := fun o => hb1.frozen (p := ⟨w.heap.size, o, none⟩) lB; (try simp [fB] at fB1); have lB1 : w.heap.size < w1.heap.size := (by omega))
          go_roundw
          case rel =>
            refine ⟨k + 1, d.tick.1, _, by go_num, rfl, by omega, by omega, by omega, ?_, (blk_store (hB.below hb1 lB)).alloc _, (((((((hR.below hb1 lR).far (p := ⟨w.heap.size, 0, none⟩) (by simp) _).far (p := ⟨w.heap.size, 1, none⟩) (by simp) _).far (p := ⟨w.heap.size, 2, none⟩) (by simp) _).far (p := ⟨w.heap.size, 3, none⟩) (by simp) _).far (p := ⟨w.heap.size, 4, none⟩) (by simp) _)).alloc _, ?_⟩
            · rw [← HT.out, HS.out]
              first | rw [if_pos ht] | rw [if_neg ht]
            · repeat (first | (with_reducible exact Below.refl _ _) | (with_reducible refine Below.drew ?_) | (with_reducible refine below_drewN ?_ _) | ((with_reducible refine Below.setCell ?_ ?_ _); rotate_left; focus (first | exact Nat.le_refl _ | omega | (simp; done) | (simp; omega))) | ((with_reducible refine Below.alloc ?_ ?_ _); rotate_left; focus (first | exact Nat.le_refl _ | omega | (simp; done) | (simp; omega))) | ((with_reducible refine Below.trans ?_ (Below.mono hb1 ?_)); rotate_left; focus (first | exact Nat.le_refl _ | omega | (simp; done) | (simp; omega))) | (with_reducible exact hBel))
          case measure => simp [intOf]; omega
      · have he' : (d.tick.2.2 != 0) = true := by simpa using he
        have hf : K.ticks n.toNat c 0 = (d, t, false) := by
          rw [← HT.out, show n.toNat - k = n.toNat - (k + 1) + 1 by omega, K.ticks, if_neg he]
        have Hf := Lib.hid hf
        clear hf he
        go_wp2_with (go_at_call 11; refine (tick_any d _).mono ?_; rintro en w1 ⟨rfl, hb1⟩; have hz1 := hb1.size; have cB1 : ∀ o, w1.cell? ⟨w.heap.size, o, none⟩ = _ := fun o => hb1.cell (p := ⟨w.heap.size, o, none⟩) lB; (try simp [cB] at cB1); have fB1 : ∀ o, w1.frozen? ⟨w.heap.size, o, none⟩ = _ := fun o => hb1.frozen (p := ⟨w.heap.size, o, none⟩) lB; (try simp [fB] at fB1); have lB1 : w.heap.size < w1.heap.size := (by omega); have cR1 : ∀ o, w1.cell? ⟨w.heap.size + 1, o, none⟩ = _ := fun o => hb1.cell (p := ⟨w.heap.size + 1, o, none⟩) lR; (try simp [cR, K.zero] at cR1); have fR1 : ∀ o, w1.frozen? ⟨w.heap.size + 1, o, none⟩ = _ := fun o => hb1.frozen (p := ⟨w.heap.size + 1, o, none⟩) lR; (try simp [fR] at fR1); have lR1 : w.heap.size + 1 < w1.heap.size := (by omega))
        refine bodyPost_ret (v := .tuple #[d.v, .int .i64 t, .bool false]) (by simp [results, Try.results22, go_sem, cR1, lR1]) rfl ⟨by rw [Hf.out], ?_⟩
        repeat (first | (with_reducible exact Below.refl _ _) | (with_reducible refine Below.drew ?_) | (with_reducible refine below_drewN ?_ _) | ((with_reducible refine Below.setCell ?_ ?_ _); rotate_left; focus (first | exact Nat.le_refl _ | omega | (simp; done) | (simp; omega))) | ((with_reducible refine Below.alloc ?_ ?_ _); rotate_left; focus (first | exact Nat.le_refl _ | omega | (simp; done) | (simp; omega))) | ((with_reducible refine Below.trans ?_ (Below.mono hb1 ?_)); rotate_left; focus (first | exact Nat.le_refl _ | omega | (simp; done) | (simp; omega))) | (with_reducible exact hBel))
    · have hf : K.ticks n.toNat c 0 = (d, t, true) := by
        rw [← HT.out, show n.toNat - k = 0 by omega, K.ticks]
      have Hf := Lib.hid hf
      clear hf
      go_wp2
      refine bodyPost_ret (v := .tuple #[d.v, .int .i64 t, .bool true]) (by simp [results, Try.results22, go_sem, cR]) rfl ⟨by rw [Hf.out], ?_⟩
      repeat (first | (with_reducible exact Below.refl _ _) | (with_reducible refine Below.drew ?_) | (with_reducible refine below_drewN ?_ _) | ((with_reducible refine Below.setCell ?_ ?_ _); rotate_left; focus (first | exact Nat.le_refl _ | omega | (simp; done) | (simp; omega))) | ((with_reducible refine Below.alloc ?_ ?_ _); rotate_left; focus (first | exact Nat.le_refl _ | omega | (simp; done) | (simp; omega))) | ((with_reducible refine Below.trans ?_ (Below.mono hb1 ?_)); rotate_left; focus (first | exact Nat.le_refl _ | omega | (simp; done) | (simp; omega))) | (with_reducible exact hBel))
end Go.Proofs.Ytihijhmahoelhaa
