/- Timer: rows of a law: kept, written over -/
import Derived.Test.YthageikchniahaaTU
import Derived.Test.YthageikchniahaaTQ
import Derived.Test.YthageikchniahaaTS
namespace Go.Proofs.Ythageikchniahaa
open Go.ChangeShapes Go.WideShapes Go.ChangeAt Go.RowKit
set_option linter.unusedSimpArgs false
set_option linter.unusedVariables false

theorem own_max {w : World} {base n c : Nat} {A : Option Addr} {xs : List Value} (h : w.ownsRow base 35 2 (.slice A n c) n xs) : n ≤ maxLen := by
  rcases h.2 with ⟨_, e⟩ | ⟨g, cap, cur, e, _, _, h3, h4, _⟩
  · rw [e]; exact Nat.zero_le _
  · omega
theorem own_keep {w w' : World} {base n : Nat} {v v2 : Value} {xs : List Value} (h : w.ownsRow base 35 2 v n xs) (hf : ∀ b, v2.ownBlock ≠ some b → w'.heap[b]? = w.heap[b]?) (hd : ∀ k, v.ownBlock = some k → v2.ownBlock = some k → False) : w'.ownsRow base 35 2 v n xs := by
  refine ⟨h.1, ?_⟩
  rcases h.2 with hn | ⟨k, c, cur, rfl, hb, hh, q⟩
  · exact .inl hn
  · exact .inr ⟨k, c, cur, rfl, hb, (hf k (fun e => hd k rfl e)).trans hh, q⟩
set_option maxRecDepth 100000 in
set_option maxHeartbeats 8000000 in
/-- A row of the call's own is written over: it stays within its own block. -/
theorem spoil_big (base m co : Nat) (Ao : Option Addr) (out : List Tm) (hm : m ≤ maxLen) (w : World) (h : Ow w base (.slice Ao m co) m out) : Calls Try.prog 12 #[.slice Ao m co] w fun en w' => en = .returned (.tuple #[]) ∧ (∃ out', Ow w' base (.slice Ao m co) m out') ∧ Below base w w' ∧ w'.heap.size = w.heap.size ∧ ∀ b, (Value.slice Ao m co).ownBlock ≠ some b → w'.heap[b]? = w.heap[b]? := by
  unfold maxLen at hm
  have g0 : Hid ((∃ out', Ow w base (.slice Ao m co) m out') ∧ Below base w w ∧ w.heap.size = w.heap.size ∧ ∀ b, (Value.slice Ao m co).ownBlock ≠ some b → w.heap[b]? = w.heap[b]?) := Lib.hid ⟨⟨out, h⟩, Below.refl _ _, rfl, fun _ _ => rfl⟩
  clear h
  go_enter Try.func12, Try.ntmps12
  go_wp2
  go_loopw [2] (fun t wr => ∃ (k : Nat), k ≤ m ∧ t = .int .i64 (k : Int) ∧ Hid ((∃ out', Ow wr base (.slice Ao m co) m out') ∧ Below base w wr ∧ wr.heap.size = w.heap.size ∧ ∀ b, (Value.slice Ao m co).ownBlock ≠ some b → wr.heap[b]? = w.heap[b]?)) (fun t _ => m - (intOf t).toNat)
  case atStart => exact ⟨0, Nat.zero_le _, rfl, Lib.hid ⟨g0.out.1, g0.out.2.1, rfl, fun _ _ => rfl⟩⟩
  case round =>
    clear g0
    obtain ⟨k, hk, rfl, gI⟩ := hrel
    by_cases hlt : k < m
    · obtain ⟨⟨out', hl, ho⟩, hB, hsz, hfr⟩ := gI.out
      obtain ⟨g, cur, e, hbg, hblk⟩ : ∃ g cur, Ao = some ⟨g, 0, none⟩ ∧ base ≤ g ∧ Blk wr g 35 cur := by
        rcases ho.2 with ⟨_, e⟩ | ⟨g, c2, cur, e, hb, hh, _⟩
        · omega
        · injection e with e
          exact ⟨g, cur, e, hb, hh⟩
      subst e
      have ht := Tms.of_own ho hl
      obtain ⟨_, e, _, hc⟩ := ht.at_ hlt
      injection e with e
      subst e
      obtain ⟨c0, _⟩ := hc wr (Below.refl _ _)
      have hp : (⟨g, 0, none⟩ : Addr).add (k * 2) = ⟨g, k * 2, none⟩ := by rw [Addr.add_lit]; simp
      rw [hp] at c0
      have z0 := hblk.frozen (k * 2)
      have i1 : (0 : Int) ≤ k := by omega
      have i2 : (k : Int) < m := by omega
      have gN : Hid ((∃ out', Ow (wr.setCell ⟨g, k * 2, none⟩ (.int .i64 (-7))) base (.slice (some ⟨g, 0, none⟩) m co) m out') ∧ Below base w (wr.setCell ⟨g, k * 2, none⟩ (.int .i64 (-7))) ∧ (wr.setCell ⟨g, k * 2, none⟩ (.int .i64 (-7))).heap.size = w.heap.size ∧ ∀ b, (Value.slice (some ⟨g, 0, none⟩) m co).ownBlock ≠ some b → (wr.setCell ⟨g, k * 2, none⟩ (.int .i64 (-7))).heap[b]? = w.heap[b]?) := Lib.hid ⟨⟨out'.set k (-7, (tz out' k).2), by rw [List.length_set]; exact hl, by
          have h1 := own_put ho (k * 2) (.int .i64 (-7))
          have e2 : (T2 out').set (k * 2) (.int .i64 (-7)) = T2 (out'.set k (-7, (tz out' k).2)) := by
            rw [T2_set]
            have h3 := (T2_at out' k (tz out' k) (tz_lt (by omega))).2
            apply List.ext_getElem?
            intro q
            rw [List.getElem?_set (i := k * 2 + 1)]
            by_cases hq : k * 2 + 1 = q
            · subst hq
              rw [if_pos rfl, List.getElem?_set, if_neg (by omega), h3]
              have : k * 2 + 1 < ((T2 out').set (k * 2) (.int .i64 (-7))).length := by
                rw [List.length_set]
                exact (List.getElem?_eq_some_iff.1 h3).1
              rw [if_pos this]
            · rw [if_neg hq]
          rw [← e2]
          exact h1⟩, hB.setCell (p := ⟨g, k * 2, none⟩) hbg _, by simp [hsz], fun b hb => (Below.heap_setCell wr ⟨g, k * 2, none⟩ _ b (fun e => hb (by rw [e]; rfl))).trans (hfr b hb)⟩
      clear hc ht hblk hfr hB ho hl gI hsz
      go_wp2
      go_roundw
      case rel => exact ⟨k + 1, by omega, by go_num, gN⟩
      case measure => simp [intOf]; omega
    · clear hk
      go_wp2
      go_end0
      exact ⟨rfl, gI.out⟩
end Go.Proofs.Ythageikchniahaa
