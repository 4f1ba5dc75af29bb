/- Timer: the walk of TimerOrders -/
import Derived.Test.YthageikchniahaaTL
namespace Go.Proofs.Ythageikchniahaa
open Go.ChangeShapes Go.WideShapes Go.ChangeAt Go.RowKit
set_option linter.unusedSimpArgs false
set_option linter.unusedVariables false

set_option maxRecDepth 100000 in
set_option maxHeartbeats 16000000 in
theorem TimerOrders.walk (A : Option Addr) (n c : Nat) (l : List Tm) (hm : n ≤ maxLen) (w : World) (h : Tms w w.heap.size A n l) : Calls Try.prog 3 #[.slice A n c] w fun en w' => en = .returned (.bool true) ∧ Below w.heap.size w w' := by
  have gl := Lib.hid h.1
  obtain ⟨i0, hi0, hz0, hz1, hz2⟩ := info_parts infoT
  obtain ⟨G, hG⟩ : ∃ G, grT n = G := ⟨_, rfl⟩
  have hg := rgreat_any A n c w G hG
  cases G with
  | true =>
    clear h hG hm
    go_enter Try.func3, Try.ntmps3
    go_wp2_with fail
    refine hg.mono ?_
    rintro en w1 ⟨rfl, hw1⟩
    obtain rfl := hw1.symm
    go_wp2
    go_ret
    exact ⟨rfl, Below.refl _ _⟩
  | false =>
    have hn : n ≤ 1028 := by
      unfold grT at hG
      simp at hG
      omega
    clear hG
    by_cases h10 : n = 1024
    · have d1 : ((n : Int) == 1024) = true := by simp; omega
      clear h hm hn h10
      go_enter Try.func3, Try.ntmps3
      go_wp2_with fail
      refine hg.mono ?_
      rintro en w1 ⟨rfl, hw1⟩
      obtain rfl := hw1.symm
      go_wp2
      go_ret
      exact ⟨rfl, Below.refl _ _⟩
    have d1 : ((n : Int) == 1024) = false := by simp; omega
    clear h10
    go_enter Try.func3, Try.ntmps3
    go_wp2_with fail
    refine hg.mono ?_
    rintro en w1 ⟨rfl, hw1⟩
    obtain rfl := hw1.symm
    clear hg hw1
    go_wp2_with (at_builtin; refine wpList_append_any _ rfl (.tmp 16) (.tmp 17) 22 rfl w.heap.size 35 i0 _ 2 16 Try.underlying22 hi0 hz0 hz1 hz2 rfl (by omega) (.slice (some ⟨w.heap.size, 0, none⟩) 0 0) 0 [] rfl (own_empty (size := 2) (Blk.new w 35 #[]) (Nat.le_refl _)) w.heap.size A n c (T2 l) rfl ((h).2.alloc (Nat.le_refl _) _) (T2_one l) (by unfold maxLen; omega) (by omega) (by simp) ?_; intro v4 w4 ho4 hg4 hor4; skip)
    rw [Nat.zero_add, List.nil_append] at ho4
    obtain ⟨Ao, co, rfl, hco, _⟩ := own_slice ho4
    have hB4 : Below w.heap.size w w4 := ((Below.refl w.heap.size w).alloc (Nat.le_refl _) _).grown hg4 (by simp) (fun q hq => by simp [Value.ownBlock] at hq; omega)
    have ht4 := Tms.of_own ho4 gl.out
    have hs4 := hB4.size
    clear hg4 hor4 ho4
    have ho := order_any Ao n co l hm w4 ht4
    have hr := fun w5 (hb : Below w4.heap.size w4 w5) => rorder_any A n c l hm w5 (h.go (hB4.trans (hb.mono hs4)) (Nat.le_trans hs4 hb.size))
    unfold OrdPost at ho hr
    obtain ⟨E, hE⟩ : ∃ E, ordE l = E := ⟨_, rfl⟩
    obtain ⟨o, ho9⟩ : ∃ o, ordO l = o := ⟨_, rfl⟩
    obtain ⟨m, hm9⟩ : ∃ m, o.length = m := ⟨_, rfl⟩
    have hmb : m ≤ 100000 := by
      have := ordL_len l
      rw [gl.out] at this
      rw [← hm9, ← ho9]
      unfold ordO
      split
      · omega
      · simp
    rw [hE, ho9, hm9] at ho hr
    have gm := Lib.hid hm9
    have gt4 := Lib.hid ht4
    have gh := Lib.hid h
    have gB4 := Lib.hid hB4
    have hee : (E == E) = true := by simp
    clear hm9 ho9 hE ht4 h hB4 hm
    refine ho.mono ?_
    rintro en w5 ⟨A5, c5, rfl, ho5, hb5⟩
    have gho5 := Lib.hid ho5
    clear ho ho5
    go_wp2_with fail
    refine (hr w5 hb5).mono ?_
    rintro en w6 ⟨A6, c6, rfl, ho6, hb6⟩
    have hs5 := hb5.size
    have hs6 := hb6.size
    have t5 := Tms.of_own (own_below gho5.out hb6) gm.out
    have t6 := Tms.of_own ho6 gm.out
    have hsm := rsame_any A5 A6 m m c5 c6 o o (by unfold maxLen; omega) w6 t5 t6 true (decide_eq_true rfl)
    have gho6 : Hid (w6.ownsRow w4.heap.size 35 2 (.slice A5 m c5) m (T2 o)) := Lib.hid (own_below gho5.out hb6)
    clear hr ho6 t5 t6
    go_wp2_with fail
    refine hsm.mono ?_
    rintro en w7 ⟨rfl, hb7⟩
    have hsp := spoil_any w4.heap.size m c5 A5 o hmb w7 ⟨gm.out, own_below gho6.out hb7⟩
    have hs7 := hb7.size
    clear hsm
    go_wp2_with fail
    refine hsp.mono ?_
    rintro en w8 ⟨rfl, _, hb8, hs8, _⟩
    have hB8 : Below w4.heap.size w4 w8 := ((hb5.trans (hb6.mono hs5)).trans (hb7.mono (by omega))).trans hb8
    have hs9 := hB8.size
    have t8 := gt4.out.go hB8 hs9
    have t9 := gh.out.go (gB4.out.trans (hB8.mono hs4)) (by omega)
    have hsn := rsame_any Ao A n n co c l l (by unfold maxLen; omega) w8 t8 t9 true (decide_eq_true rfl)
    have gE : Hid (Below w.heap.size w w8) := Lib.hid (gB4.out.trans (hB8.mono hs4))
    clear hsp t8 t9 hb8 hs8
    go_wp2_with fail
    refine hsn.mono ?_
    rintro en w10 ⟨rfl, hb10⟩
    go_wp2
    go_ret
    exact ⟨rfl, gE.out.trans (hb10.mono gE.out.size)⟩
end Go.Proofs.Ythageikchniahaa
