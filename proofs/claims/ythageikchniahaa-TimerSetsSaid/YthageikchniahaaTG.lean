/- Timer: timers piled -/
import Derived.Test.YthageikchniahaaTF
namespace Go.Proofs.Ythageikchniahaa
open Go.ChangeShapes Go.WideShapes Go.ChangeAt Go.RowKit
set_option linter.unusedSimpArgs false
set_option linter.unusedVariables false

/-- A heap of timers that the call has made. -/
def Heap (w : World) (R g : Nat) (l : List Tm) : Prop := Pl w R g l ∧ HpFrom l 0 l.length
set_option maxHeartbeats 8000000 in
theorem piled_any (A : Option Addr) (n c : Nat) (l : List Tm) (hn : n ≤ 2000) (w : World) (h : Tms w w.heap.size A n l) : Calls Try.prog 28 #[.slice A n c] w fun en w' => ∃ R g l', en = .returned (.agg #[.pointer (some ⟨R, 0, none⟩)]) ∧ w.heap.size ≤ R ∧ w.heap.size ≤ g ∧ g < w'.heap.size ∧ l'.Perm l ∧ Heap w' R g l' ∧ Below w.heap.size w w' := by
  obtain ⟨V, hV⟩ : ∃ V, V = ((w.alloc (.cells #[.pointer none] 55)).alloc (.cells #[.slice none 0 0] 68)).alloc (.cells #[.pointer (some ⟨w.heap.size + 1, 0, none⟩)] 55) := ⟨_, rfl⟩
  have hB : Below w.heap.size w V := by rw [hV]; exact (((Below.refl w.heap.size w).alloc (Nat.le_refl _) _).alloc (by simp) _).alloc (by simp; omega) _
  have hs : V.heap.size = w.heap.size + 3 := by rw [hV]; simp
  have k0 : Blk V w.heap.size 55 #[.pointer none] := by rw [hV]; exact ((Blk.new w _ _).alloc _).alloc _
  have k1 : Blk V (w.heap.size + 1) 68 #[.slice none 0 0] := by rw [hV]; have := (Blk.new (w.alloc (.cells #[.pointer none] 55)) 68 #[.slice none 0 0]).alloc (.cells #[.pointer (some ⟨w.heap.size + 1, 0, none⟩)] 55); rwa [World.size_alloc] at this
  have k2 : Blk V (w.heap.size + 1 + 1) 55 #[.pointer (some ⟨w.heap.size + 1, 0, none⟩)] := by rw [hV]; have := Blk.new ((w.alloc (.cells #[.pointer none] 55)).alloc (.cells #[.slice none 0 0] 68)) 55 #[.pointer (some ⟨w.heap.size + 1, 0, none⟩)]; rwa [World.size_alloc, World.size_alloc] at this
  have gl := Lib.hid h.1
  have g0 : Hid (Pl V (w.heap.size + 1) (w.heap.size + 1) [] ∧ Blk V w.heap.size 55 #[.pointer none] ∧ Blk V (w.heap.size + 1 + 1) 55 #[.pointer (some ⟨w.heap.size + 1, 0, none⟩)] ∧ Below w.heap.size w V ∧ w.heap.size + 3 ≤ V.heap.size ∧ w.heap.size + 1 < V.heap.size) := Lib.hid ⟨⟨_, k1, World.ownsRow_nil _ _ _ _, fun b hb => by simp [Value.ownBlock] at hb⟩, k0, k2, hB, by omega, by omega⟩
  have hat : Hid (∀ k, k < n → ∃ ad, A = some ad ∧ ad.block < w.heap.size ∧ ∀ w', Below w.heap.size w w' → w'.cell? (ad.add (k * 2)) = some (.int .i64 (tz l k).1) ∧ w'.cell? ⟨(ad.add (k * 2)).block, (ad.add (k * 2)).off + 1, none⟩ = some (.int .i64 (tz l k).2)) := Lib.hid (fun k hk => h.at_ hk)
  clear h k0 k1 k2 hB hs
  go_enter Try.func28, Try.ntmps28
  go_wp2
  rw [← hV]
  clear hV
  go_loopw [12] (fun t wr => ∃ (k g : Nat), k ≤ n ∧ t = .int .i64 (k : Int) ∧ Hid (Pl wr (w.heap.size + 1) g (l.take k) ∧ (g = w.heap.size + 1 ∨ w.heap.size + 3 ≤ g) ∧ Blk wr w.heap.size 55 #[.pointer none] ∧ Blk wr (w.heap.size + 1 + 1) 55 #[.pointer (some ⟨w.heap.size + 1, 0, none⟩)] ∧ Below w.heap.size w wr ∧ w.heap.size + 3 ≤ wr.heap.size ∧ g < wr.heap.size)) (fun t _ => n - (intOf t).toNat)
  case atStart => exact ⟨0, w.heap.size + 1, Nat.zero_le _, rfl, Lib.hid ⟨g0.out.1, .inl rfl, g0.out.2⟩⟩
  case round =>
    clear g0
    obtain ⟨k, g, hk, rfl, gI⟩ := hrel
    obtain ⟨hP, hg, k0, k2, hB, hs, hgl⟩ := gI.out
    by_cases hlt : k < n
    · obtain ⟨ad, rfl, hab, hc⟩ := hat.out k hlt
      obtain ⟨c0, c1⟩ := hc wr hB
      have i1 : (0 : Int) ≤ k := by omega
      have i2 : (k : Int) < n := by omega
      obtain ⟨x, y, hxy⟩ : ∃ x y, tz l k = (x, y) := ⟨_, _, rfl⟩
      rw [hxy] at c0 c1
      simp only at c0 c1
      have hBW : Below wr.heap.size wr (wr.alloc (.cells #[.int .i64 x, .int .i64 y] 35)) := (Below.refl _ _).alloc (Nat.le_refl _) _
      have hpu := push_any (w.heap.size + 1) g (l.take k) x y (by rw [List.length_take]; omega) _ (hP.below hBW)
      have f2 : (wr.alloc (.cells #[.int .i64 x, .int .i64 y] 35)).cell? ⟨w.heap.size + 1 + 1, 0, none⟩ = some (.pointer (some ⟨w.heap.size + 1, 0, none⟩)) := by rw [(k2.below hBW k2.lt).cell]; rfl
      have gN : Hid (∀ g' w2, Pl w2 (w.heap.size + 1) g' (l.take k ++ [(x, y)]) → Frm (w.heap.size + 1) g (wr.alloc (.cells #[.int .i64 x, .int .i64 y] 35)) w2 → (g' = g ∨ (wr.alloc (.cells #[.int .i64 x, .int .i64 y] 35)).heap.size ≤ g') → Pl w2 (w.heap.size + 1) g' (l.take (k + 1)) ∧ (g' = w.heap.size + 1 ∨ w.heap.size + 3 ≤ g') ∧ Blk w2 w.heap.size 55 #[.pointer none] ∧ Blk w2 (w.heap.size + 1 + 1) 55 #[.pointer (some ⟨w.heap.size + 1, 0, none⟩)] ∧ Below w.heap.size w w2 ∧ w.heap.size + 3 ≤ w2.heap.size ∧ g' < w2.heap.size) := Lib.hid (fun g' w2 hP2 hF2 hg2 => by
        have hF := (Frm.of_below (R := w.heap.size + 1) (g := g) hBW).trans hF2
        have hsz := hF.1.size
        refine ⟨?_, ?_, hF.blk k0 (by omega) (by omega), hF.blk k2 (by omega) (by omega), hB.trans (hF.below (by omega) (by omega) (by omega)), by omega, ?_⟩
        · have e : l.take (k + 1) = l.take k ++ [(x, y)] := by
            rw [← hxy, List.take_add_one, tz_lt (by rw [gl.out]; exact hlt)]
            rfl
          rw [e]
          exact hP2
        · rw [World.size_alloc] at hg2
          omega
        · obtain ⟨_, _, _, _, h3, _⟩ := hP2.row (by simp)
          exact h3.lt)
      clear hP hg k0 k2 hB hs hgl gI hc hBW hxy
      go_wp2_with (go_at_call 42; refine hpu.mono ?_; rintro en w2 ⟨rfl, g', hP2, hF2, hg2⟩)
      go_roundw
      case rel => exact ⟨k + 1, g', by omega, by go_num, Lib.hid (gN.out g' _ hP2 hF2 hg2)⟩
      case measure => simp [intOf]; omega
    · obtain rfl : k = n := by omega
      rw [List.take_of_length_le (by rw [gl.out]; exact Nat.le_refl _)] at hP
      have hin := init_any (w.heap.size + 1) g l (by rw [gl.out]; omega) wr hP
      have f2 : wr.cell? ⟨w.heap.size + 1 + 1, 0, none⟩ = some (.pointer (some ⟨w.heap.size + 1, 0, none⟩)) := by rw [k2.cell]; rfl
      have gk := Lib.hid (And.intro hg (And.intro k0 (And.intro k2 (And.intro hB (And.intro hs hgl)))))
      clear hP hg k0 k2 hB hs hgl gI hlt
      go_wp2_with fail
      refine hin.mono ?_
      rintro en w3 ⟨rfl, l', hP3, hp3, hh3, hF3⟩
      obtain ⟨hg, k0, k2, hB, hs, hgl⟩ := gk.out
      have k0' := hF3.blk k0 (by omega) (by omega)
      have k2' := hF3.blk k2 (by omega) (by omega)
      have c0 : w3.cell? ⟨w.heap.size, 0, none⟩ = some (.pointer none) := by rw [k0'.cell]; rfl
      have c2 : w3.cell? ⟨w.heap.size + 1 + 1, 0, none⟩ = some (.pointer (some ⟨w.heap.size + 1, 0, none⟩)) := by rw [k2'.cell]; rfl
      have z0 := k0'.frozen 0
      have kW := k0'.set_ 0 (.pointer (some ⟨w.heap.size + 1, 0, none⟩))
      have d0 : (w3.setCell ⟨w.heap.size, 0, none⟩ (.pointer (some ⟨w.heap.size + 1, 0, none⟩))).cell? ⟨w.heap.size, 0, none⟩ = some (.pointer (some ⟨w.heap.size + 1, 0, none⟩)) := by rw [kW.cell]; rfl
      have gB : Hid (Below w.heap.size w w3) := Lib.hid (hB.trans (hF3.below (by omega) (by omega) (by omega)))
      have gg : Hid (w.heap.size ≤ g ∧ g ≠ w.heap.size ∧ g < w3.heap.size) := Lib.hid ⟨by omega, by omega, by have := hF3.1.size; omega⟩
      clear hg k0 k2 hB hs hgl k0' k2' hF3
      go_wp2
      refine bodyPost_ret (v := .agg #[.pointer (some ⟨w.heap.size + 1, 0, none⟩)]) (by simp [results, Try.results28, go_sem, d0]) rfl ?_
      exact ⟨w.heap.size + 1, g, l', rfl, Nat.le_succ _, gg.out.1, by simpa using gg.out.2.2, hp3, ⟨hP3.far (p := ⟨w.heap.size, 0, none⟩) (show w.heap.size + 1 ≠ w.heap.size by omega) gg.out.2.1 _, hh3⟩, gB.out.setCell (Nat.le_refl _) _⟩
end Go.Proofs.Ythageikchniahaa
