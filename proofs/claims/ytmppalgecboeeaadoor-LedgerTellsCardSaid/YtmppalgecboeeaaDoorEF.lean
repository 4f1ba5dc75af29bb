/- Door: ledger.Clean -/
import Derived.Test.YtmppalgecboeeaaDoorEE
namespace Go.Proofs.YtmppalgecboeeaaDoor
open Go.ChangeShapes Go.WideShapes Go.ChangeAt Go.RowKit
set_option linter.unusedSimpArgs false
set_option linter.unusedVariables false
open Go.Shelf
set_option maxRecDepth 100000
set_option maxHeartbeats 8000000 in
theorem indexF_any (A : Option Addr) (n c : Nat) (l : List En) (hm : n ≤ 8300) (w : World) (h1 : Ens w w.heap.size A n l) (bN : Nat) (N : Int) (hN : w.cell? ⟨bN, 0, none⟩ = some (.int .i64 N)) : Calls Tryd.prog 62 #[.slice A n c, .func (.func 45) #[] #[.pointer (some ⟨bN, 0, none⟩)]] w fun en w' => (∃ I, en = .returned (.int .i64 I) ∧ decide (0 ≤ I) = l.any (fun x => x.ep == N)) ∧ Below w.heap.size w w' := by
  have gln := Lib.hid (ens_len h1)
  have hB0 := Below.refl w.heap.size w
  go_enter Tryd.func62, Tryd.ntmps62
  go_wp2
  go_loopw [8] (fun t wr => ∃ (k : Nat), k ≤ n ∧ t = .int .i64 (k : Int) ∧ Hid (∀ j x, j < k → l[j]? = some x → (x.ep == N) = false) ∧ Below w.heap.size w wr) (fun t _ => n - (intOf t).toNat)
  case atStart => exact ⟨0, Nat.zero_le _, rfl, Lib.hid (fun j x h => by omega), hB0⟩
  case round =>
    clear hB0
    obtain ⟨k, hk, rfl, h0, hB⟩ := hrel
    by_cases hlt : k < n
    · obtain ⟨ad, ep, why, ag0, aX0, an0, ac0, ae0, ag1, aX1, an1, ac1, ae1, ag2, aX2, an2, ac2, ae2, ag3, aX3, an3, ac3, ae3, m, rfl, hb1, hl1, hx1, hrel1⟩ := ens_rel h1 hlt
      obtain ⟨a0, a1, a2, a3, a4, a5, a6, a7, a8, a9, a10, a11, a12, a13⟩ := (hrel1 wr hB).2
      have i1 : (0 : Int) ≤ k := by omega
      have i2 : (k : Int) < n := by omega
      obtain ⟨Q, hQ⟩ : ∃ Q, (ep == N) = Q := ⟨_, rfl⟩
      have hc := cloC ep why ag0 aX0 an0 ac0 ae0 ag1 aX1 an1 ac1 ae1 ag2 aX2 an2 ac2 ae2 ag3 aX3 an3 ac3 ae3 bN N wr Q hQ ((hB.cell (World.block_lt_of_cell? w _ hN)).trans hN)
      have gl1 := Lib.hid hl1
      have gQ := Lib.hid hQ
      clear hrel1 hx1 h1 hl1 hb1 hQ hN
      cases Q with
      | true =>
        have gR : Hid (decide (0 ≤ (k : Int)) = l.any (fun x => x.ep == N)) := Lib.hid (by
          rw [decide_eq_true i1]
          exact (List.any_eq_true.2 ⟨_, List.mem_of_getElem? gl1.out, gQ.out⟩).symm)
        clear h0 gQ
        go_wp2_with fail
        refine hc.mono ?_
        rintro en w1 ⟨rfl, hb1⟩
        clear hc
        go_wp2
        go_ret
        exact ⟨⟨_, rfl, gR.out⟩, hB.trans (hb1.mono hB.size)⟩
      | false =>
        have h0' : Hid (∀ j x, j < k + 1 → l[j]? = some x → (x.ep == N) = false) := Lib.hid (fun j x hj hx => by
          rcases Nat.lt_or_ge j k with h | h
          · exact h0.out j x h hx
          · obtain rfl : j = k := by omega
            rw [gl1.out] at hx
            injection hx with hx
            subst hx
            exact gQ.out)
        clear h0 gQ
        go_wp2_with fail
        refine hc.mono ?_
        rintro en w1 ⟨rfl, hb1⟩
        clear hc
        go_wp2
        go_roundw
        case rel => exact ⟨k + 1, by omega, by go_num, h0', hB.trans (hb1.mono hB.size)⟩
        case measure => simp [intOf]; omega
    · obtain rfl : k = n := by omega
      have gR : Hid (decide ((0 : Int) ≤ -1) = l.any (fun x => x.ep == N)) := Lib.hid (by
        rw [decide_eq_false (by omega)]
        refine (List.any_eq_false.2 fun x hx => ?_).symm
        obtain ⟨j, hj, e⟩ := List.getElem_of_mem hx
        rw [h0.out j x (by rw [← gln.out]; exact hj) (by rw [List.getElem?_eq_getElem hj, e])]
        decide)
      clear h0 h1 hN
      go_wp2
      go_ret
      exact ⟨⟨_, rfl, gR.out⟩, hB⟩
set_option maxHeartbeats 4000000 in
theorem containsF_any (A : Option Addr) (n c : Nat) (l : List En) (hm : n ≤ 8300) (w : World) (h1 : Ens w w.heap.size A n l) (bN : Nat) (N : Int) (hN : w.cell? ⟨bN, 0, none⟩ = some (.int .i64 N)) : Calls Tryd.prog 44 #[.slice A n c, .func (.func 45) #[] #[.pointer (some ⟨bN, 0, none⟩)]] w fun en w' => en = .returned (.bool (l.any (fun x => x.ep == N))) ∧ Below w.heap.size w w' := by
  have hi := indexF_any A n c l hm w h1 bN N hN
  obtain ⟨Q, hQ⟩ : ∃ Q, l.any (fun x => x.ep == N) = Q := ⟨_, rfl⟩
  rw [hQ] at hi ⊢
  clear h1 hQ hN
  go_enter Tryd.func44, Tryd.ntmps44
  go_wp2_with fail
  refine hi.mono ?_
  rintro en w1 ⟨⟨I, rfl, hI⟩, hb1⟩
  clear hi
  go_wp2
  go_ret
  exact ⟨rfl, hb1⟩
/-- Whether an epoch lost nothing. -/
def clnL (l : List En) (N : Int) : Bool := !l.any (fun x => x.ep == N)
set_option maxHeartbeats 8000000 in
theorem lclean_any (A : Option Addr) (n c : Nat) (l : List En) (hm : n ≤ 8300) (w : World) (h1 : Ens w w.heap.size A n l) (N : Int) : Calls Tryd.prog 17 #[.slice A n c, .int .i64 N] w fun en w' => en = .returned (.tuple #[.bool (if askL l N 1 = 0 then clnL l N else false), .int .i64 (askL l N 1)]) ∧ Below w.heap.size w w' := by
  obtain ⟨V, hV⟩ : ∃ V, V = w.alloc (.cells #[.int .i64 N] 3) := ⟨_, rfl⟩
  have kb : Blk V w.heap.size 3 #[.int .i64 N] := by rw [hV]; exact Blk.new w _ _
  have hB : Below w.heap.size w V := by rw [hV]; exact (Below.refl _ w).alloc (Nat.le_refl _) _
  have ha := asked_any A n c l hm V ((h1.below hB).more hB.size) N 1
  have hcl : ∀ w', Below V.heap.size V w' → Calls Tryd.prog 44 #[.slice A n c, .func (.func 45) #[] #[.pointer (some ⟨w.heap.size, 0, none⟩)]] w' fun en w2 => en = .returned (.bool (l.any (fun x => x.ep == N))) ∧ Below w.heap.size w w2 := fun w' hb =>
    (containsF_any A n c l hm w' (((h1.below hB).below (hb.mono hB.size)).more (Nat.le_trans hB.size hb.size)) w.heap.size N (by rw [(kb.below hb kb.lt).cell]; rfl)).mono fun en w2 ⟨e1, e2⟩ => ⟨e1, hB.trans ((hb.trans (e2.mono hb.size)).mono hB.size)⟩
  obtain ⟨E, hE⟩ : ∃ E, askL l N 1 = E := ⟨_, rfl⟩
  have gc : Hid (clnL l N = !l.any (fun x => x.ep == N)) := Lib.hid rfl
  obtain ⟨Q, hQ⟩ : ∃ Q, l.any (fun x => x.ep == N) = Q := ⟨_, rfl⟩
  rw [hE] at ha ⊢
  rw [hQ] at gc hcl
  rw [gc.out]
  clear h1 hE hQ kb gc
  by_cases h0 : E = 0
  · subst h0
    rw [if_pos rfl]
    go_enter Tryd.func17, Tryd.ntmps17
    go_wp2_with fail
    rw [← hV]
    clear hV
    refine ha.mono ?_
    rintro en w1 ⟨rfl, hb1⟩
    clear ha
    have hc := hcl w1 hb1
    clear hcl
    go_wp2_with fail
    refine hc.mono ?_
    rintro en w2 ⟨rfl, hb2⟩
    clear hc
    go_wp2
    go_ret2
    exact ⟨rfl, hb2⟩
  · rw [if_neg h0]
    have t0 : (E != 0) = true := bne_iff_ne.2 h0
    clear h0 hcl
    go_enter Tryd.func17, Tryd.ntmps17
    go_wp2_with fail
    rw [← hV]
    clear hV
    refine ha.mono ?_
    rintro en w1 ⟨rfl, hb1⟩
    clear ha
    go_wp2
    go_ret2
    exact ⟨rfl, hB.trans (hb1.mono hB.size)⟩
end Go.Proofs.YtmppalgecboeeaaDoor
