/- Door: ledger.kinds, known, era | Door: ledger.Check, asked -/
import Derived.Lib.SliceRun
import Derived.Test.YtmppalgecboeeaaDoorDN
import Derived.Test.YtmppalgecboeeaaDoorLL
import Derived.Test.YtmppalgecboeeaaDoorLH
namespace Go.Proofs.YtmppalgecboeeaaDoor
open Go.ChangeShapes Go.WideShapes Go.ChangeAt Go.RowKit
set_option linter.unusedSimpArgs false
set_option linter.unusedVariables false
open Go.Shelf
set_option maxRecDepth 100000
/-- A kind. -/
def knK (y : Int) : Bool := decide (1 ≤ y) && decide (y ≤ 6)
def eraN (N : Int) : Bool := decide (0 ≤ N) && decide (N ≤ 65535)
set_option maxHeartbeats 2000000 in
theorem era_any (N : Int) (w : World) (R : Bool) (hR : eraN N = R) : Calls Tryd.prog 47 #[.int .i64 N] w fun en w' => en = .returned (.bool R) ∧ Below w.heap.size w w' := by
  obtain ⟨q0, hq0⟩ : ∃ q, decide (0 ≤ N) = q := ⟨_, rfl⟩
  obtain ⟨q1, hq1⟩ : ∃ q, decide (N ≤ 65535) = q := ⟨_, rfl⟩
  have e : R = (q0 && q1) := by rw [← hR, ← hq0, ← hq1]; rfl
  subst e
  clear hR
  have hB := Below.refl w.heap.size w
  cases q0 <;> cases q1 <;> (go_enter Tryd.func47, Tryd.ntmps47; go_wp2; go_ret; exact ⟨rfl, hB⟩)
theorem info6 : (Tryd.prog.info? 91).map (·.size) = some 6 := by kernel_rfl
set_option maxHeartbeats 4000000 in
theorem kinds_any (w : World) : Calls Tryd.prog 64 #[] w fun en w' => en = .returned (.agg #[.int .u8 1, .int .u8 2, .int .u8 3, .int .u8 4, .int .u8 5, .int .u8 6]) ∧ Below w.heap.size w w' := by
  have hB := (Below.refl w.heap.size w).alloc (Nat.le_refl _) (.cells #[.int .u8 0, .int .u8 0, .int .u8 0, .int .u8 0, .int .u8 0, .int .u8 0] 91)
  have k0 := Blk.new w 91 #[.int .u8 0, .int .u8 0, .int .u8 0, .int .u8 0, .int .u8 0, .int .u8 0]
  have kz := k0.setRow #[.int .u8 1, .int .u8 2, .int .u8 3, .int .u8 4, .int .u8 5, .int .u8 6]
  have hBz := below_setRow (g := w.heap.size) hB (Nat.le_refl _) #[.int .u8 1, .int .u8 2, .int .u8 3, .int .u8 4, .int .u8 5, .int .u8 6]
  go_enter Tryd.func64, Tryd.ntmps64
  go_wp2_with (refine wpList_store_row rfl 91 _ _ rfl w.heap.size #[.int .u8 1, .int .u8 2, .int .u8 3, .int .u8 4, .int .u8 5, .int .u8 6] rfl rfl 91 #[.int .u8 0, .int .u8 0, .int .u8 0, .int .u8 0, .int .u8 0, .int .u8 0] ?_ info6 rfl (by simp [Value.oneCell']) ?_; exact k0)
  refine bodyPost_ret (results_cell_row rfl _ _ w.heap.size 91 #[.int .u8 1, .int .u8 2, .int .u8 3, .int .u8 4, .int .u8 5, .int .u8 6] (0, 0) _ rfl kz.row Tryd.underlying91 rfl (by kernel_rfl)) rfl ?_
  exact ⟨rfl, hBz⟩
theorem cell6 {w : World} {b : Nat} (h : Blk w b 91 #[.int .u8 1, .int .u8 2, .int .u8 3, .int .u8 4, .int .u8 5, .int .u8 6]) {k : Nat} (hk : k < 6) : w.cell? ⟨b, k, none⟩ = some (.int .u8 (k + 1)) := by
  have hc := h.cell
  rcases (show k = 0 ∨ k = 1 ∨ k = 2 ∨ k = 3 ∨ k = 4 ∨ k = 5 by omega) with rfl | rfl | rfl | rfl | rfl | rfl
  · exact hc 0
  · exact hc 1
  · exact hc 2
  · exact hc 3
  · exact hc 4
  · exact hc 5
set_option maxHeartbeats 8000000 in
theorem indexK_any (b : Nat) (y : Int) (w : World) (h : Blk w b 91 #[.int .u8 1, .int .u8 2, .int .u8 3, .int .u8 4, .int .u8 5, .int .u8 6]) : Calls Tryd.prog 77 #[.slice (some ⟨b, 0, none⟩) 6 6, .int .u8 y] w fun en w' => (∃ I, en = .returned (.int .i64 I) ∧ decide (0 ≤ I) = knK y) ∧ Below w.heap.size w w' := by
  have hB0 := Below.refl w.heap.size w
  have gh := Lib.hid h
  clear h
  go_enter Tryd.func77, Tryd.ntmps77
  go_wp2
  go_loopw [8] (fun t wr => ∃ (k : Nat), k ≤ 6 ∧ t = .int .i64 (k : Int) ∧ Hid (∀ j : Nat, j < k → y ≠ j + 1) ∧ Below w.heap.size w wr) (fun t _ => 6 - (intOf t).toNat)
  case atStart => exact ⟨0, Nat.zero_le _, rfl, Lib.hid (fun j hj => by omega), hB0⟩
  case round =>
    clear hB0
    obtain ⟨k, hk, rfl, gI, hB⟩ := hrel
    by_cases hlt : k < 6
    · have hc := cell6 (gh.out.below hB gh.out.lt) hlt
      have i1 : (0 : Int) ≤ k := by omega
      have i2 : (k : Int) < 6 := by omega
      obtain ⟨Q, hQ⟩ : ∃ Q, (y == (k : Int) + 1) = Q := ⟨_, rfl⟩
      have gQ : Hid (Q = decide (y = k + 1)) := Lib.hid (by rw [← hQ, Bool.beq_eq_decide_eq])
      cases Q with
      | true =>
        have gR : Hid (decide (0 ≤ (k : Int)) = knK y) := Lib.hid (by
          have := of_decide_eq_true gQ.out.symm
          subst this
          unfold knK
          rw [decide_eq_true i1, decide_eq_true (by omega), decide_eq_true (by omega)]; rfl)
        clear gI gQ
        go_wp2
        go_ret
        exact ⟨⟨_, rfl, gR.out⟩, hB⟩
      | false =>
        have gI' : Hid (∀ j : Nat, j < k + 1 → y ≠ j + 1) := Lib.hid (fun j hj => by
          rcases Nat.lt_or_ge j k with h1 | h1
          · exact gI.out j h1
          · rw [show j = k by omega]; exact of_decide_eq_false gQ.out.symm)
        clear gI gQ
        go_wp2
        go_roundw
        case rel => exact ⟨k + 1, by omega, by go_num, gI', hB⟩
        case measure => simp [intOf]; omega
    · obtain rfl : k = 6 := by omega
      have gR : Hid (decide ((0 : Int) ≤ -1) = knK y) := Lib.hid (by
        have h0 := gI.out 0 (by omega)
        have h1 := gI.out 1 (by omega)
        have h2 := gI.out 2 (by omega)
        have h3 := gI.out 3 (by omega)
        have h4 := gI.out 4 (by omega)
        have h5 := gI.out 5 (by omega)
        rw [decide_eq_false (by omega)]
        unfold knK
        simp
        omega)
      clear gI
      go_wp2
      go_ret
      exact ⟨⟨_, rfl, gR.out⟩, hB⟩
set_option maxHeartbeats 4000000 in
theorem containsK_any (b : Nat) (y : Int) (w : World) (h : Blk w b 91 #[.int .u8 1, .int .u8 2, .int .u8 3, .int .u8 4, .int .u8 5, .int .u8 6]) (Q : Bool) (hQ : knK y = Q) : Calls Tryd.prog 65 #[.slice (some ⟨b, 0, none⟩) 6 6, .int .u8 y] w fun en w' => en = .returned (.bool Q) ∧ Below w.heap.size w w' := by
  have hi := indexK_any b y w h
  rw [hQ] at hi
  clear h hQ
  go_enter Tryd.func65, Tryd.ntmps65
  go_wp2_with fail
  refine hi.mono ?_
  rintro en w1 ⟨⟨I, rfl, hI⟩, hb1⟩
  clear hi
  go_wp2
  go_ret
  exact ⟨rfl, hb1⟩
set_option maxHeartbeats 4000000 in
theorem known_any (y : Int) (w : World) (Q : Bool) (hQ : knK y = Q) : Calls Tryd.prog 48 #[.int .u8 y] w fun en w' => en = .returned (.bool Q) ∧ Below w.heap.size w w' := by
  have hk := kinds_any w
  have hc : ∀ w', Below w.heap.size w w' → Calls Tryd.prog 65 #[.slice (some ⟨w'.heap.size, 0, none⟩) 6 6, .int .u8 y] (w'.alloc (.cells #[.int .u8 1, .int .u8 2, .int .u8 3, .int .u8 4, .int .u8 5, .int .u8 6] 91)) fun en w2 => en = .returned (.bool Q) ∧ Below w.heap.size w w2 := fun w' hb =>
    (containsK_any w'.heap.size y _ (Blk.new w' _ _) Q hQ).mono fun en w2 ⟨h1, h2⟩ => ⟨h1, (hb.alloc hb.size _).trans (h2.mono (by rw [World.size_alloc]; have := hb.size; omega))⟩
  clear hQ
  go_enter Tryd.func48, Tryd.ntmps48
  go_wp2_with fail
  refine hk.mono ?_
  rintro en w1 ⟨rfl, hb1⟩
  clear hk
  go_wp2_with fail
  refine (hc w1 hb1).mono ?_
  rintro en w2 ⟨rfl, hb2⟩
  clear hc
  go_wp2
  go_ret
  exact ⟨rfl, hb2⟩
end Go.Proofs.YtmppalgecboeeaaDoor
namespace Go.Proofs.YtmppalgecboeeaaDoor
open Go.ChangeShapes Go.WideShapes Go.ChangeAt Go.RowKit
set_option linter.unusedSimpArgs false
set_option linter.unusedVariables false
open Go.Shelf
set_option maxRecDepth 100000
def goodE (x : En) : Bool := eraN x.ep && (knK x.why && mayM x.give)
def chkL (l : List En) : Int := if 8192 < l.length then 4 else if l.all goodE = true then 0 else 8
def askL (l : List En) (N y : Int) : Int := if chkL l ≠ 0 then chkL l else if (eraN N && knK y) = true then 0 else 2
set_option maxHeartbeats 8000000 in
theorem lgcheck_any (A : Option Addr) (n c : Nat) (l : List En) (hm : n ≤ 8300) (w : World) (h1 : Ens w w.heap.size A n l) : Calls Tryd.prog 21 #[.slice A n c] w fun en w' => en = .returned (.int .i64 (chkL l)) ∧ Below w.heap.size w w' := by
  have gln := Lib.hid (ens_len h1)
  by_cases hb : 8192 < n
  · have d5 : decide ((8192 : Int) < n) = true := decide_eq_true (by omega)
    have d6 : decide (8192 < n) = true := decide_eq_true hb
    have g4 : Hid (4 = chkL l) := Lib.hid (by unfold chkL; rw [if_pos (by rw [gln.out]; exact hb)])
    clear h1 hb hm
    go_enter Tryd.func21, Tryd.ntmps21
    go_wp2
    go_ret
    exact ⟨by rw [← g4.out]; rfl, Below.refl _ _⟩
  have gn : Hid (¬ 8192 < l.length) := Lib.hid (by rw [gln.out]; omega)
  have d5 : decide ((8192 : Int) < n) = false := decide_eq_false (by omega)
  have d6 : decide (8192 < n) = false := decide_eq_false hb
  have hB0 := Below.refl w.heap.size w
  have g8 : Hid (∀ x ∈ l, goodE x = false → 8 = chkL l) := Lib.hid (fun x hx hg => by
    unfold chkL
    rw [if_neg gn.out, if_neg]
    intro h
    rw [List.all_eq_true.1 h x hx] at hg
    cases hg)
  clear hb
  go_enter Tryd.func21, Tryd.ntmps21
  go_wp2
  go_loopw [10] (fun t wr => ∃ (k : Nat), k ≤ n ∧ t = .int .i64 (k : Int) ∧ Hid (∀ j x, j < k → l[j]? = some x → goodE x = true) ∧ Below w.heap.size w wr) (fun t _ => n - (intOf t).toNat)
  case atStart => exact ⟨0, Nat.zero_le _, rfl, Lib.hid (fun j x h => by omega), hB0⟩
  case round =>
    clear hB0
    obtain ⟨k, hk, rfl, h0, hB⟩ := hrel
    by_cases hlt : k < n
    · obtain ⟨ad, ep, why, ag0, aX0, an0, ac0, ae0, ag1, aX1, an1, ac1, ae1, ag2, aX2, an2, ac2, ae2, ag3, aX3, an3, ac3, ae3, m, rfl, hb1, hl1, hx1, hrel1⟩ := ens_rel h1 hlt
      obtain ⟨a0, a1, a2, a3, a4, a5, a6, a7, a8, a9, a10, a11, a12, a13⟩ := (hrel1 wr hB).2
      have i1 : (0 : Int) ≤ k := by omega
      have i2 : (k : Int) < n := by omega
      have hB1 : Below w.heap.size w (wr.alloc (.cells #[.int .i64 ep, .int .u8 why, .bool ag0, .slice aX0 an0 ac0, .int .i64 ae0, .bool ag1, .slice aX1 an1 ac1, .int .i64 ae1, .bool ag2, .slice aX2 an2 ac2, .int .i64 ae2, .bool ag3, .slice aX3 an3 ac3, .int .i64 ae3] 53)) := hB.alloc hB.size _
      have hrd : RdM (wr.alloc (.cells #[.int .i64 ep, .int .u8 why, .bool ag0, .slice aX0 an0 ac0, .int .i64 ae0, .bool ag1, .slice aX1 an1 ac1, .int .i64 ae1, .bool ag2, .slice aX2 an2 ac2, .int .i64 ae2, .bool ag3, .slice aX3 an3 ac3, .int .i64 ae3] 53)) (wr.alloc (.cells #[.int .i64 ep, .int .u8 why, .bool ag0, .slice aX0 an0 ac0, .int .i64 ae0, .bool ag1, .slice aX1 an1 ac1, .int .i64 ae1, .bool ag2, .slice aX2 an2 ac2, .int .i64 ae2, .bool ag3, .slice aX3 an3 ac3, .int .i64 ae3] 53)).heap.size ag0 aX0 an0 ac0 ae0 ag1 aX1 an1 ac1 ae1 ag2 aX2 an2 ac2 ae2 ag3 aX3 an3 ac3 ae3 m := (hrel1 _ hB1).1
      have gl1 := Lib.hid hl1
      have kb := Blk.new wr 53 #[.int .i64 ep, .int .u8 why, .bool ag0, .slice aX0 an0 ac0, .int .i64 ae0, .bool ag1, .slice aX1 an1 ac1, .int .i64 ae1, .bool ag2, .slice aX2 an2 ac2, .int .i64 ae2, .bool ag3, .slice aX3 an3 ac3, .int .i64 ae3]
      have g8' : Hid (goodE ⟨ep, why, m⟩ = false → 8 = chkL l) := Lib.hid (g8.out _ (List.mem_of_getElem? hl1))
      clear hrel1 hx1 h1 hl1 hb1
      obtain ⟨q1, hq1⟩ : ∃ q, eraN ep = q := ⟨_, rfl⟩
      obtain ⟨q2, hq2⟩ : ∃ q, knK why = q := ⟨_, rfl⟩
      obtain ⟨Q, hQ⟩ : ∃ Q, mayM m = Q := ⟨_, rfl⟩
      have he := era_any ep (wr.alloc (.cells #[.int .i64 ep, .int .u8 why, .bool ag0, .slice aX0 an0 ac0, .int .i64 ae0, .bool ag1, .slice aX1 an1 ac1, .int .i64 ae1, .bool ag2, .slice aX2 an2 ac2, .int .i64 ae2, .bool ag3, .slice aX3 an3 ac3, .int .i64 ae3] 53)) q1 hq1
      have hk1 : ∀ w', Below (wr.alloc (.cells #[.int .i64 ep, .int .u8 why, .bool ag0, .slice aX0 an0 ac0, .int .i64 ae0, .bool ag1, .slice aX1 an1 ac1, .int .i64 ae1, .bool ag2, .slice aX2 an2 ac2, .int .i64 ae2, .bool ag3, .slice aX3 an3 ac3, .int .i64 ae3] 53)).heap.size (wr.alloc (.cells #[.int .i64 ep, .int .u8 why, .bool ag0, .slice aX0 an0 ac0, .int .i64 ae0, .bool ag1, .slice aX1 an1 ac1, .int .i64 ae1, .bool ag2, .slice aX2 an2 ac2, .int .i64 ae2, .bool ag3, .slice aX3 an3 ac3, .int .i64 ae3] 53)) w' → Calls Tryd.prog 48 #[.int .u8 why] w' fun en w2 => en = .returned (.bool q2) ∧ Below (wr.alloc (.cells #[.int .i64 ep, .int .u8 why, .bool ag0, .slice aX0 an0 ac0, .int .i64 ae0, .bool ag1, .slice aX1 an1 ac1, .int .i64 ae1, .bool ag2, .slice aX2 an2 ac2, .int .i64 ae2, .bool ag3, .slice aX3 an3 ac3, .int .i64 ae3] 53)).heap.size (wr.alloc (.cells #[.int .i64 ep, .int .u8 why, .bool ag0, .slice aX0 an0 ac0, .int .i64 ae0, .bool ag1, .slice aX1 an1 ac1, .int .i64 ae1, .bool ag2, .slice aX2 an2 ac2, .int .i64 ae2, .bool ag3, .slice aX3 an3 ac3, .int .i64 ae3] 53)) w2 := fun w' hb => (known_any why w' q2 hq2).mono fun en w2 ⟨h1, h2⟩ => ⟨h1, hb.trans (h2.mono hb.size)⟩
      have hc : ∀ w', Below (wr.alloc (.cells #[.int .i64 ep, .int .u8 why, .bool ag0, .slice aX0 an0 ac0, .int .i64 ae0, .bool ag1, .slice aX1 an1 ac1, .int .i64 ae1, .bool ag2, .slice aX2 an2 ac2, .int .i64 ae2, .bool ag3, .slice aX3 an3 ac3, .int .i64 ae3] 53)).heap.size (wr.alloc (.cells #[.int .i64 ep, .int .u8 why, .bool ag0, .slice aX0 an0 ac0, .int .i64 ae0, .bool ag1, .slice aX1 an1 ac1, .int .i64 ae1, .bool ag2, .slice aX2 an2 ac2, .int .i64 ae2, .bool ag3, .slice aX3 an3 ac3, .int .i64 ae3] 53)) w' → Calls Tryd.prog 32 #[.agg #[.bool ag0, .slice aX0 an0 ac0, .int .i64 ae0, .bool ag1, .slice aX1 an1 ac1, .int .i64 ae1, .bool ag2, .slice aX2 an2 ac2, .int .i64 ae2, .bool ag3, .slice aX3 an3 ac3, .int .i64 ae3]] w' fun en w2 => en = .returned (.int .i64 (if Q = true then 0 else 8)) ∧ Below (wr.alloc (.cells #[.int .i64 ep, .int .u8 why, .bool ag0, .slice aX0 an0 ac0, .int .i64 ae0, .bool ag1, .slice aX1 an1 ac1, .int .i64 ae1, .bool ag2, .slice aX2 an2 ac2, .int .i64 ae2, .bool ag3, .slice aX3 an3 ac3, .int .i64 ae3] 53)).heap.size (wr.alloc (.cells #[.int .i64 ep, .int .u8 why, .bool ag0, .slice aX0 an0 ac0, .int .i64 ae0, .bool ag1, .slice aX1 an1 ac1, .int .i64 ae1, .bool ag2, .slice aX2 an2 ac2, .int .i64 ae2, .bool ag3, .slice aX3 an3 ac3, .int .i64 ae3] 53)) w2 := fun w' hb => (mcheck_any ag0 aX0 an0 ac0 ae0 ag1 aX1 an1 ac1 ae1 ag2 aX2 an2 ac2 ae2 ag3 aX3 an3 ac3 ae3 m w' (hrd.below hb hb.size) Q hQ).mono fun en w2 ⟨h1, h2⟩ => ⟨h1, hb.trans (h2.mono hb.size)⟩
      have gg : Hid (goodE ⟨ep, why, m⟩ = (q1 && (q2 && Q))) := Lib.hid (by unfold goodE; rw [hq1, hq2, hQ])
      clear hq1 hq2 hQ hrd
      cases q1 with
      | false =>
        have g8f := Lib.hid (g8'.out (by rw [gg.out]; rfl))
        clear g8 g8' gg h0 hk1 hc
        go_wp2_with fail
        refine he.mono ?_
        rintro en w1 ⟨rfl, hb1⟩
        clear he
        go_wp2
        go_ret
        exact ⟨by rw [← g8f.out]; rfl, hB1.trans (hb1.mono hB1.size)⟩
      | true =>
       cases q2 with
       | false =>
        have g8f := Lib.hid (g8'.out (by rw [gg.out]; rfl))
        clear g8 g8' gg h0 hc
        go_wp2_with fail
        refine he.mono ?_
        rintro en w1 ⟨rfl, hb1⟩
        clear he
        have kk := kb.below hb1 kb.lt
        have z0 := kk.cell 0
        have z1 := kk.cell 1
        have z2 := kk.cell 2
        have z3 := kk.cell 3
        have z4 := kk.cell 4
        have z5 := kk.cell 5
        have z6 := kk.cell 6
        have z7 := kk.cell 7
        have z8 := kk.cell 8
        have z9 := kk.cell 9
        have z10 := kk.cell 10
        have z11 := kk.cell 11
        have z12 := kk.cell 12
        have z13 := kk.cell 13
        simp only [List.getElem?_toArray, List.getElem?_cons_zero, List.getElem?_cons_succ] at z0 z1 z2 z3 z4 z5 z6 z7 z8 z9 z10 z11 z12 z13
        clear kk
        go_wp2_with fail
        refine (hk1 _ hb1).mono ?_
        rintro en w2 ⟨rfl, hb2⟩
        go_wp2
        go_ret
        exact ⟨by rw [← g8f.out]; rfl, hB1.trans (hb2.mono hB1.size)⟩
       | true =>
        cases Q with
        | false =>
         have g8f := Lib.hid (g8'.out (by rw [gg.out]; rfl))
         clear g8 g8' gg h0
         go_wp2_with fail
         refine he.mono ?_
         rintro en w1 ⟨rfl, hb1⟩
         clear he
         have kk := kb.below hb1 kb.lt
         have z0 := kk.cell 0
         have z1 := kk.cell 1
         have z2 := kk.cell 2
         have z3 := kk.cell 3
         have z4 := kk.cell 4
         have z5 := kk.cell 5
         have z6 := kk.cell 6
         have z7 := kk.cell 7
         have z8 := kk.cell 8
         have z9 := kk.cell 9
         have z10 := kk.cell 10
         have z11 := kk.cell 11
         have z12 := kk.cell 12
         have z13 := kk.cell 13
         simp only [List.getElem?_toArray, List.getElem?_cons_zero, List.getElem?_cons_succ] at z0 z1 z2 z3 z4 z5 z6 z7 z8 z9 z10 z11 z12 z13
         clear kk
         go_wp2_with fail
         refine (hk1 _ hb1).mono ?_
         rintro en w2 ⟨rfl, hb2⟩
         clear z0 z1 z2 z3 z4 z5 z6 z7 z8 z9 z10 z11 z12 z13
         have kk := kb.below hb2 kb.lt
         have z0 := kk.cell 0
         have z1 := kk.cell 1
         have z2 := kk.cell 2
         have z3 := kk.cell 3
         have z4 := kk.cell 4
         have z5 := kk.cell 5
         have z6 := kk.cell 6
         have z7 := kk.cell 7
         have z8 := kk.cell 8
         have z9 := kk.cell 9
         have z10 := kk.cell 10
         have z11 := kk.cell 11
         have z12 := kk.cell 12
         have z13 := kk.cell 13
         simp only [List.getElem?_toArray, List.getElem?_cons_zero, List.getElem?_cons_succ] at z0 z1 z2 z3 z4 z5 z6 z7 z8 z9 z10 z11 z12 z13
         clear kk
         go_wp2_with fail
         refine (hc _ hb2).mono ?_
         rintro en w3 ⟨rfl, hb3⟩
         clear hc hk1
         go_wp2
         go_ret
         exact ⟨by rw [← g8f.out]; rfl, hB1.trans (hb3.mono hB1.size)⟩
        | true =>
         have h0' : Hid (∀ j x, j < k + 1 → l[j]? = some x → goodE x = true) := Lib.hid (fun j x hj hx => by
           rcases Nat.lt_or_ge j k with h | h
           · exact h0.out j x h hx
           · obtain rfl : j = k := by omega
             rw [gl1.out] at hx
             injection hx with hx
             subst hx
             rw [gg.out]; rfl)
         clear g8' gg h0
         go_wp2_with fail
         refine he.mono ?_
         rintro en w1 ⟨rfl, hb1⟩
         clear he
         have kk := kb.below hb1 kb.lt
         have z0 := kk.cell 0
         have z1 := kk.cell 1
         have z2 := kk.cell 2
         have z3 := kk.cell 3
         have z4 := kk.cell 4
         have z5 := kk.cell 5
         have z6 := kk.cell 6
         have z7 := kk.cell 7
         have z8 := kk.cell 8
         have z9 := kk.cell 9
         have z10 := kk.cell 10
         have z11 := kk.cell 11
         have z12 := kk.cell 12
         have z13 := kk.cell 13
         simp only [List.getElem?_toArray, List.getElem?_cons_zero, List.getElem?_cons_succ] at z0 z1 z2 z3 z4 z5 z6 z7 z8 z9 z10 z11 z12 z13
         clear kk
         go_wp2_with fail
         refine (hk1 _ hb1).mono ?_
         rintro en w2 ⟨rfl, hb2⟩
         clear z0 z1 z2 z3 z4 z5 z6 z7 z8 z9 z10 z11 z12 z13
         have kk := kb.below hb2 kb.lt
         have z0 := kk.cell 0
         have z1 := kk.cell 1
         have z2 := kk.cell 2
         have z3 := kk.cell 3
         have z4 := kk.cell 4
         have z5 := kk.cell 5
         have z6 := kk.cell 6
         have z7 := kk.cell 7
         have z8 := kk.cell 8
         have z9 := kk.cell 9
         have z10 := kk.cell 10
         have z11 := kk.cell 11
         have z12 := kk.cell 12
         have z13 := kk.cell 13
         simp only [List.getElem?_toArray, List.getElem?_cons_zero, List.getElem?_cons_succ] at z0 z1 z2 z3 z4 z5 z6 z7 z8 z9 z10 z11 z12 z13
         clear kk
         go_wp2_with fail
         refine (hc _ hb2).mono ?_
         rintro en w3 ⟨rfl, hb3⟩
         clear hc hk1
         go_wp2
         go_roundw
         case rel => exact ⟨k + 1, by omega, by go_num, h0', hB1.trans (hb3.mono hB1.size)⟩
         case measure => simp [intOf]; omega
    · obtain rfl : k = n := by omega
      have gd : Hid (0 = chkL l) := Lib.hid (by
        unfold chkL
        rw [if_neg gn.out, if_pos]
        exact List.all_eq_true.2 (fun x hx => by
          obtain ⟨j, hj, e⟩ := List.getElem_of_mem hx
          exact h0.out j x (by rw [← gln.out]; exact hj) (by rw [List.getElem?_eq_getElem hj, e])))
      clear h0 h1 g8
      go_wp2
      go_ret
      exact ⟨by rw [← gd.out]; rfl, hB⟩
set_option maxHeartbeats 8000000 in
theorem asked_any (A : Option Addr) (n c : Nat) (l : List En) (hm : n ≤ 8300) (w : World) (h : Ens w w.heap.size A n l) (N y : Int) : Calls Tryd.prog 31 #[.slice A n c, .int .i64 N, .int .u8 y] w fun en w' => en = .returned (.int .i64 (askL l N y)) ∧ Below w.heap.size w w' := by
  have hc := lgcheck_any A n c l hm w h
  clear h
  obtain ⟨E, hE⟩ : ∃ E, chkL l = E := ⟨_, rfl⟩
  have hs : E = 0 ∨ E = 4 ∨ E = 8 := by
    rw [← hE]
    unfold chkL
    split
    · exact .inr (.inl rfl)
    · split
      · exact .inl rfl
      · exact .inr (.inr rfl)
  rw [hE] at hc
  obtain ⟨q1, hq1⟩ : ∃ q, eraN N = q := ⟨_, rfl⟩
  obtain ⟨q2, hq2⟩ : ∃ q, knK y = q := ⟨_, rfl⟩
  have ga : Hid (askL l N y = if E ≠ 0 then E else if (q1 && q2) = true then 0 else 2) := Lib.hid (by unfold askL; rw [hE, hq1, hq2])
  have he : ∀ w', Below w.heap.size w w' → Calls Tryd.prog 47 #[.int .i64 N] w' fun en w2 => en = .returned (.bool q1) ∧ Below w.heap.size w w2 := fun w' hb => (era_any N w' q1 hq1).mono fun en w2 ⟨h1, h2⟩ => ⟨h1, hb.trans (h2.mono hb.size)⟩
  have hk : ∀ w', Below w.heap.size w w' → Calls Tryd.prog 48 #[.int .u8 y] w' fun en w2 => en = .returned (.bool q2) ∧ Below w.heap.size w w2 := fun w' hb => (known_any y w' q2 hq2).mono fun en w2 ⟨h1, h2⟩ => ⟨h1, hb.trans (h2.mono hb.size)⟩
  clear hE hq1 hq2
  rcases hs with rfl | rfl | rfl
  rotate_left
  · have g4 : Hid (askL l N y = 4) := Lib.hid (by rw [ga.out]; rfl)
    rw [g4.out]
    clear he hk ga g4
    go_enter Tryd.func31, Tryd.ntmps31
    go_wp2_with fail
    refine hc.mono ?_
    rintro en w1 ⟨rfl, hb1⟩
    clear hc
    go_wp2
    go_ret
    exact ⟨rfl, hb1⟩
  · have g8 : Hid (askL l N y = 8) := Lib.hid (by rw [ga.out]; rfl)
    rw [g8.out]
    clear he hk ga g8
    go_enter Tryd.func31, Tryd.ntmps31
    go_wp2_with fail
    refine hc.mono ?_
    rintro en w1 ⟨rfl, hb1⟩
    clear hc
    go_wp2
    go_ret
    exact ⟨rfl, hb1⟩
  · cases q1 with
    | false =>
      have g2 : Hid (askL l N y = 2) := Lib.hid (by rw [ga.out]; rfl)
      rw [g2.out]
      clear hk ga g2
      go_enter Tryd.func31, Tryd.ntmps31
      go_wp2_with fail
      refine hc.mono ?_
      rintro en w1 ⟨rfl, hb1⟩
      clear hc
      go_wp2_with fail
      refine (he _ hb1).mono ?_
      rintro en w2 ⟨rfl, hb2⟩
      clear he
      go_wp2
      go_ret
      exact ⟨rfl, hb2⟩
    | true =>
      cases q2
      · have g2 : Hid (askL l N y = 2) := Lib.hid (by rw [ga.out]; rfl)
        rw [g2.out]
        clear ga g2
        go_enter Tryd.func31, Tryd.ntmps31
        go_wp2_with fail
        refine hc.mono ?_
        rintro en w1 ⟨rfl, hb1⟩
        clear hc
        go_wp2_with fail
        refine (he _ hb1).mono ?_
        rintro en w2 ⟨rfl, hb2⟩
        clear he
        go_wp2_with fail
        refine (hk _ hb2).mono ?_
        rintro en w3 ⟨rfl, hb3⟩
        clear hk
        go_wp2
        go_ret
        exact ⟨rfl, hb3⟩
      · have g2 : Hid (askL l N y = 0) := Lib.hid (by rw [ga.out]; rfl)
        rw [g2.out]
        clear ga g2
        go_enter Tryd.func31, Tryd.ntmps31
        go_wp2_with fail
        refine hc.mono ?_
        rintro en w1 ⟨rfl, hb1⟩
        clear hc
        go_wp2_with fail
        refine (he _ hb1).mono ?_
        rintro en w2 ⟨rfl, hb2⟩
        clear he
        go_wp2_with fail
        refine (hk _ hb2).mono ?_
        rintro en w3 ⟨rfl, hb3⟩
        clear hk
        go_wp2
        go_ret
        exact ⟨rfl, hb3⟩
end Go.Proofs.YtmppalgecboeeaaDoor
