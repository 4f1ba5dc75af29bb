/- Timer: the reference's Order; timers written over -/
import Derived.Test.YthageikchniahaaTK
namespace Go.Proofs.Ythageikchniahaa
open Go.ChangeShapes Go.WideShapes Go.ChangeAt Go.RowKit
set_option linter.unusedSimpArgs false
set_option linter.unusedVariables false

set_option maxRecDepth 100000 in
set_option maxHeartbeats 16000000 in
theorem rorder_any (A : Option Addr) (n c : Nat) (l : List Tm) (hm : n ≤ maxLen) (w : World) (h : Tms w w.heap.size A n l) : Calls Try.prog 10 #[.slice A n c] w (OrdPost w l) := by
  have gl := Lib.hid h.1
  by_cases hb : 1024 < n
  · have d5 : decide ((1024 : Int) < n) = true := decide_eq_true (by omega)
    have d6 : decide (1024 < n) = true := decide_eq_true hb
    have g4 : Hid (ordE l = 4) := Lib.hid (by unfold ordE; rw [if_pos (by rw [gl.out]; exact hb)])
    clear h hb hm
    go_enter Try.func10, Try.ntmps10
    go_wp2
    go_ret2
    exact ordPost_bad g4.out (by decide) (Below.refl _ _)
  have hn : n ≤ 1024 := by omega
  have d5 : decide ((1024 : Int) < n) = false := decide_eq_false (by omega)
  have d6 : decide (1024 < n) = false := decide_eq_false hb
  have hat : Hid (∀ k, k < n → ∃ ad, A = some ad ∧ ad.block < w.heap.size ∧ ∀ w', Below w.heap.size w w' → w'.cell? (ad.add (k * 2)) = some (.int .i64 (tz l k).1) ∧ w'.cell? ⟨(ad.add (k * 2)).block, (ad.add (k * 2)).off + 1, none⟩ = some (.int .i64 (tz l k).2)) := Lib.hid (fun k hk => h.at_ hk)
  have gbad : Hid (∀ k, k < n → mayT (tz l k) = false → ordE l = 8) := Lib.hid (fun k hk e => by
    unfold ordE
    rw [if_neg (by rw [gl.out]; exact hb), if_pos]
    rw [List.any_eq_true]
    exact ⟨tz l k, List.mem_of_getElem? (tz_lt (by rw [gl.out]; exact hk)), by rw [e]; rfl⟩)
  have ggood : Hid ((∀ k, k < n → mayT (tz l k) = true) → ordE l = 0) := Lib.hid (fun hg => by
    unfold ordE
    rw [if_neg (by rw [gl.out]; exact hb), if_neg]
    intro ha
    rw [List.any_eq_true] at ha
    obtain ⟨t, ht, hmt⟩ := ha
    obtain ⟨j, hj2, rfl⟩ := List.getElem_of_mem ht
    have := hg j (by rw [← gl.out]; exact hj2)
    rw [tz_some (List.getElem?_eq_getElem hj2)] at this
    rw [this] at hmt
    cases hmt)
  have hB0 := Below.refl w.heap.size w
  clear h hb hm
  go_enter Try.func10, Try.ntmps10
  go_wp2
  go_loopw [4] (fun t wr => ∃ (k : Nat), k ≤ n ∧ t = .int .i64 (k : Int) ∧ Hid (∀ j, j < k → mayT (tz l j) = true) ∧ Below w.heap.size w wr) (fun t _ => n - (intOf t).toNat)
  case atStart => exact ⟨0, Nat.zero_le _, rfl, Lib.hid (fun j hj => by omega), hB0⟩
  case round =>
    clear hB0
    obtain ⟨k, hk, rfl, gI, hB⟩ := hrel
    by_cases hlt : k < n
    · obtain ⟨ad, rfl, hab, hc⟩ := hat.out k hlt
      obtain ⟨c0, c1⟩ := hc wr hB
      have i1 : (0 : Int) ≤ k := by omega
      have i2 : (k : Int) < n := by omega
      obtain ⟨x, y, hxy⟩ : ∃ x y, tz l k = (x, y) := ⟨_, _, rfl⟩
      rw [hxy] at c0 c1
      obtain ⟨Q, hQ⟩ : ∃ Q, mayT (x, y) = Q := ⟨_, rfl⟩
      have hmy := rmay_any x y wr Q hQ
      have gQ : Hid (mayT (tz l k) = Q) := Lib.hid (by rw [hxy]; exact hQ)
      clear hc hxy hQ
      cases Q with
      | false =>
        have g8 := Lib.hid (gbad.out k hlt gQ.out)
        clear gQ gI
        go_wp2_with (go_at_call 31; refine hmy.mono ?_; rintro en w2 ⟨rfl, hb2⟩)
        go_ret2
        exact ordPost_bad g8.out (by decide) (hB.trans (hb2.mono hB.size))
      | true =>
        have gI' : Hid (∀ j, j < k + 1 → mayT (tz l j) = true) := Lib.hid (fun j hj => by
          rcases Nat.lt_or_ge j k with h1 | h1
          · exact gI.out j h1
          · rw [show j = k by omega]; exact gQ.out)
        clear gQ gI
        go_wp2_with (go_at_call 31; refine hmy.mono ?_; rintro en w2 ⟨rfl, hb2⟩)
        go_roundw
        case rel => exact ⟨k + 1, by omega, by go_num, gI', hB.trans (hb2.mono hB.size)⟩
        case measure => simp [intOf]; omega
    · obtain rfl : k = n := by omega
      have g4 : Hid (ordE l = 0) := Lib.hid (ggood.out gI.out)
      have g0 : Hid (Ow wr w.heap.size (.slice none 0 0) 0 [] ∧ Below w.heap.size w wr ∧ w.heap.size ≤ wr.heap.size ∧ (l.take 0).foldl wth1 [] = []) := Lib.hid ⟨⟨rfl, World.ownsRow_nil _ _ _ _⟩, hB, hB.size, rfl⟩
      clear gI hB hlt gbad ggood
      go_wp2
      go_loopw [5, 6] (fun v t wr => ∃ (j m co : Nat) (Ao : Option Addr) (out : List Tm), j ≤ k ∧ m ≤ j ∧ v = .slice Ao m co ∧ t = .int .i64 (j : Int) ∧ Hid (Ow wr w.heap.size (.slice Ao m co) m out ∧ Below w.heap.size w wr ∧ w.heap.size ≤ wr.heap.size ∧ (l.take j).foldl wth1 [] = out)) (fun _ t _ => k - (intOf t).toNat)
      case atStart => exact ⟨0, 0, 0, none, [], Nat.zero_le _, Nat.zero_le _, rfl, rfl, g0⟩
      case round =>
        clear g0
        obtain ⟨j, m, co, Ao, out, hj, hmj, rfl, rfl, gI⟩ := hrel
        obtain ⟨hO, hB, hBs, hS⟩ := gI.out
        by_cases hlt : j < k
        · obtain ⟨ad, rfl, hab, hc⟩ := hat.out j hlt
          obtain ⟨c0, c1⟩ := hc wr hB
          have i1 : (0 : Int) ≤ j := by omega
          have i2 : (j : Int) < k := by omega
          obtain ⟨x, y, hxy⟩ : ∃ x y, tz l j = (x, y) := ⟨_, _, rfl⟩
          rw [hxy] at c0 c1
          have gc : Hid (∀ w', Below wr.heap.size wr w' → w'.cell? (ad.add (j * 2)) = some (.int .i64 x) ∧ w'.cell? ⟨(ad.add (j * 2)).block, (ad.add (j * 2)).off + 1, none⟩ = some (.int .i64 y)) := Lib.hid (fun w' h => by have := hc w' (hB.trans (h.mono hBs)); rw [hxy] at this; exact this)
          have gf : Hid (wth1 out (x, y) = (l.take (j + 1)).foldl wth1 []) := Lib.hid (by rw [take_one (by rw [gl.out]; exact hlt), List.foldl_append, hS, hxy]; rfl)
          have hto := Tms.of_own hO.2 hO.1
          obtain ⟨Q, hQ⟩ : ∃ Q, out.contains (x, y) = Q := ⟨_, rfl⟩
          have hin := rin_any Ao m co out x y (by unfold maxLen; omega) wr hto Q hQ
          have gQ := Lib.hid hQ
          cases Q with
          | true =>
            have gR : Hid (∀ w2, Below wr.heap.size wr w2 → Ow w2 w.heap.size (.slice Ao m co) m out ∧ Below w.heap.size w w2 ∧ w.heap.size ≤ w2.heap.size ∧ (l.take (j + 1)).foldl wth1 [] = out) := Lib.hid (fun w2 h => ⟨hO.below h, hB.trans (h.mono hBs), Nat.le_trans hBs h.size, by rw [← gf.out]; unfold wth1; rw [if_pos gQ.out]⟩)
            clear hc hxy hQ hto hO hB hS gI hat
            go_wp2_with (go_at_call 32; refine hin.mono ?_; rintro en w2 ⟨rfl, hb2⟩)
            go_roundw
            case rel => exact ⟨j + 1, m, co, Ao, out, by omega, by omega, rfl, by go_num, Lib.hid (gR.out _ hb2)⟩
            case measure => simp [intOf]; omega
          | false =>
            have hwt := fun w' (h : Below wr.heap.size wr w') => rwith_any Ao m co out x y (by omega) w' (hto.go h h.size)
            have gR : Hid (∀ w2 w3 A3 c3, Below wr.heap.size wr w2 → Below w2.heap.size w2 w3 → Ow w3 w2.heap.size (.slice A3 (m + 1) c3) (m + 1) (wth out (x, y)) → Ow w3 w.heap.size (.slice A3 (m + 1) c3) (m + 1) (wth out (x, y)) ∧ Below w.heap.size w w3 ∧ w.heap.size ≤ w3.heap.size ∧ (l.take (j + 1)).foldl wth1 [] = wth out (x, y)) := Lib.hid (fun w2 w3 A3 c3 h h3 h4 => by
              have hs2 := h.size
              have hs3 := h3.size
              exact ⟨⟨h4.1, own_base_le h4.2 (by omega)⟩, (hB.trans (h.mono hBs)).trans (h3.mono (by omega)), by omega, by rw [← gf.out]; unfold wth1; rw [if_neg (by rw [gQ.out]; simp)]⟩)
            have gol := Lib.hid hO.1
            clear hc hxy hQ hto hO hB hS gI hat
            go_wp2_with (first | (go_at_call 32; refine hin.mono ?_; rintro en w2 ⟨rfl, hb2⟩; obtain ⟨c2, c3⟩ := gc.out _ hb2) | (go_at_call 33; refine (hwt _ hb2).mono ?_; rintro en w3 ⟨A3, d3, m3, rfl, hm3, hO3, hb3⟩; obtain rfl : m3 = m + 1 := (by rw [hm3, gol.out]); clear hm3))
            go_roundw
            case rel => exact ⟨j + 1, m + 1, d3, A3, wth out (x, y), by omega, by omega, rfl, by go_num, Lib.hid (gR.out _ _ _ _ hb2 hb3 hO3)⟩
            case measure => simp [intOf]; omega
        · obtain rfl : j = k := by omega
          have e5 : ordO l = out := by
            unfold ordO
            rw [if_pos g4.out, ← hS, List.take_of_length_le (by rw [gl.out]; exact Nat.le_refl _)]
            rfl
          have gO := Lib.hid hO
          have gE := Lib.hid e5
          clear hat gI hS hO hlt e5
          go_wp2
          go_ret2
          refine ⟨Ao, co, ?_, ?_, hB⟩
          · rw [gE.out, g4.out, gO.out.1]; rfl
          · rw [gE.out, gO.out.1]
            exact gO.out.2
set_option maxRecDepth 100000 in
set_option maxHeartbeats 8000000 in
/-- A row of the call's own is written over: it stays within its own block. -/
theorem spoil_any (base m co : Nat) (Ao : Option Addr) (out : List Tm) (hm : m ≤ 100000) (w : World) (h : Ow w base (.slice Ao m co) m out) : Calls Try.prog 12 #[.slice Ao m co] w fun en w' => en = .returned (.tuple #[]) ∧ (∃ out', Ow w' base (.slice Ao m co) m out') ∧ Below base w w' ∧ w'.heap.size = w.heap.size ∧ ∀ b, (Value.slice Ao m co).ownBlock ≠ some b → w'.heap[b]? = w.heap[b]? := by
  have g0 : Hid ((∃ out', Ow w base (.slice Ao m co) m out') ∧ Below base w w ∧ w.heap.size = w.heap.size ∧ ∀ b, (Value.slice Ao m co).ownBlock ≠ some b → w.heap[b]? = w.heap[b]?) := Lib.hid ⟨⟨out, h⟩, Below.refl _ _, rfl, fun _ _ => rfl⟩
  clear h
  go_enter Try.func12, Try.ntmps12
  go_wp2
  go_loopw [2] (fun t wr => ∃ (k : Nat), k ≤ m ∧ t = .int .i64 (k : Int) ∧ Hid ((∃ out', Ow wr base (.slice Ao m co) m out') ∧ Below base w wr ∧ wr.heap.size = w.heap.size ∧ ∀ b, (Value.slice Ao m co).ownBlock ≠ some b → wr.heap[b]? = w.heap[b]?)) (fun t _ => m - (intOf t).toNat)
  case atStart => exact ⟨0, Nat.zero_le _, rfl, Lib.hid ⟨g0.out.1, g0.out.2.1, rfl, fun _ _ => rfl⟩⟩
  case round =>
    clear g0
    obtain ⟨k, hk, rfl, gI⟩ := hrel
    by_cases hlt : k < m
    · obtain ⟨⟨out', hl, ho⟩, hB, hsz, hfr⟩ := gI.out
      obtain ⟨g, cur, e, hbg, hblk⟩ : ∃ g cur, Ao = some ⟨g, 0, none⟩ ∧ base ≤ g ∧ Blk wr g 35 cur := by
        rcases ho.2 with ⟨_, e⟩ | ⟨g, c2, cur, e, hb, hh, _⟩
        · omega
        · injection e with e
          exact ⟨g, cur, e, hb, hh⟩
      subst e
      have ht := Tms.of_own ho hl
      obtain ⟨_, e, _, hc⟩ := ht.at_ hlt
      injection e with e
      subst e
      obtain ⟨c0, _⟩ := hc wr (Below.refl _ _)
      have hp : (⟨g, 0, none⟩ : Addr).add (k * 2) = ⟨g, k * 2, none⟩ := by rw [Addr.add_lit]; simp
      rw [hp] at c0
      have z0 := hblk.frozen (k * 2)
      have i1 : (0 : Int) ≤ k := by omega
      have i2 : (k : Int) < m := by omega
      have gN : Hid ((∃ out', Ow (wr.setCell ⟨g, k * 2, none⟩ (.int .i64 (-7))) base (.slice (some ⟨g, 0, none⟩) m co) m out') ∧ Below base w (wr.setCell ⟨g, k * 2, none⟩ (.int .i64 (-7))) ∧ (wr.setCell ⟨g, k * 2, none⟩ (.int .i64 (-7))).heap.size = w.heap.size ∧ ∀ b, (Value.slice (some ⟨g, 0, none⟩) m co).ownBlock ≠ some b → (wr.setCell ⟨g, k * 2, none⟩ (.int .i64 (-7))).heap[b]? = w.heap[b]?) := Lib.hid ⟨⟨out'.set k (-7, (tz out' k).2), by rw [List.length_set]; exact hl, by
          have h1 := own_put ho (k * 2) (.int .i64 (-7))
          have e2 : (T2 out').set (k * 2) (.int .i64 (-7)) = T2 (out'.set k (-7, (tz out' k).2)) := by
            rw [T2_set]
            have h3 := (T2_at out' k (tz out' k) (tz_lt (by omega))).2
            apply List.ext_getElem?
            intro q
            rw [List.getElem?_set (i := k * 2 + 1)]
            by_cases hq : k * 2 + 1 = q
            · subst hq
              rw [if_pos rfl, List.getElem?_set, if_neg (by omega), h3]
              have : k * 2 + 1 < ((T2 out').set (k * 2) (.int .i64 (-7))).length := by
                rw [List.length_set]
                exact (List.getElem?_eq_some_iff.1 h3).1
              rw [if_pos this]
            · rw [if_neg hq]
          rw [← e2]
          exact h1⟩, hB.setCell (p := ⟨g, k * 2, none⟩) hbg _, by simp [hsz], fun b hb => (Below.heap_setCell wr ⟨g, k * 2, none⟩ _ b (fun e => hb (by rw [e]; rfl))).trans (hfr b hb)⟩
      clear hc ht hblk hfr hB ho hl gI hsz
      go_wp2
      go_roundw
      case rel => exact ⟨k + 1, by omega, by go_num, gN⟩
      case measure => simp [intOf]; omega
    · clear hk
      go_wp2
      go_end0
      exact ⟨rfl, gI.out⟩
end Go.Proofs.Ythageikchniahaa
