/- Mail: descriptors that may be -/
import Derived.Test.YtjmhefkmpfkpbaaPA
import Derived.Test.YtjmhefkmpfkpbaaKA
namespace Go.Proofs.Ytjmhefkmpfkpbaa
open Go.ChangeShapes Go.WideShapes Go.ChangeAt Go.RowKit
set_option linter.unusedSimpArgs false
set_option linter.unusedVariables false
set_option maxHeartbeats 400000 in
theorem tz_some {l : List Tm} {i : Nat} {t : Tm} (h : l[i]? = some t) : tz l i = t := by
  unfold tz
  rw [List.getD_eq_getElem?_getD, h]; rfl
set_option maxHeartbeats 4000000 in
theorem idx_may (A : Option Addr) (n c : Nat) (l : List Tm) (hn : n ≤ 5000) (w : World) (h : Tms w w.heap.size A n l) (hclo : ∀ w' a b, Below w.heap.size w w' → ∀ Q, (!mayT (a, b)) = Q → Calls Try.prog 77 #[.agg #[.int .i64 a, .int .i64 b]] w' fun en w'' => en = .returned (.bool Q) ∧ Below w'.heap.size w' w'') : Calls Try.prog 97 #[.slice A n c, .func (.func 77) #[] #[]] w fun en w' => Below w.heap.size w w' ∧ ((∃ k, k < n ∧ en = .returned (.int .i64 (k : Int)) ∧ (!mayT (tz l k)) = true ∧ ∀ j, j < k → (!mayT (tz l j)) = false) ∨ (en = .returned (.int .i64 (-1)) ∧ ∀ j, j < n → (!mayT (tz l j)) = false)) := by
  have hat : Hid (∀ k, k < n → ∃ ad, A = some ad ∧ ad.block < w.heap.size ∧ ∀ w', Below w.heap.size w w' → w'.cell? (ad.add (k * 2)) = some (.int .i64 (tz l k).1) ∧ w'.cell? ⟨(ad.add (k * 2)).block, (ad.add (k * 2)).off + 1, none⟩ = some (.int .i64 (tz l k).2)) := Lib.hid (fun k hk => h.at_ hk)
  have hB0 := Below.refl w.heap.size w
  clear h
  go_enter Try.func97, Try.ntmps97
  go_wp2
  go_loopw [8] (fun t wr => ∃ (k : Nat), k ≤ n ∧ t = .int .i64 (k : Int) ∧ Hid (∀ j, j < k → (!mayT (tz l j)) = false) ∧ Below w.heap.size w wr) (fun t _ => n - (intOf t).toNat)
  case atStart => exact ⟨0, Nat.zero_le _, rfl, Lib.hid (fun j hj => by omega), hB0⟩
  case round =>
    clear hB0
    obtain ⟨k, hk, rfl, gI, hB⟩ := hrel
    by_cases hlt : k < n
    · obtain ⟨ad, rfl, hab, hc⟩ := hat.out k hlt
      obtain ⟨c0, c1⟩ := hc wr hB
      have i1 : (0 : Int) ≤ k := by omega
      have i2 : (k : Int) < n := by omega
      obtain ⟨Q, hQ⟩ : ∃ Q, (!mayT (tz l k)) = Q := ⟨_, rfl⟩
      have hf := hclo wr (tz l k).1 (tz l k).2 hB Q hQ
      have gQ := Lib.hid hQ
      clear hQ hclo
      generalize hx : (tz l k).1 = x at c0 c1 hf
      generalize hy : (tz l k).2 = y at c0 c1 hf
      clear hc hx hy
      cases Q with
      | true =>
        go_wp2_with (go_at_call 77; refine hf.mono ?_; rintro en w2 ⟨rfl, hb2⟩)
        go_ret
        exact ⟨hB.trans (hb2.mono hB.size), .inl ⟨k, hlt, rfl, gQ.out, gI.out⟩⟩
      | false =>
        have gI' := Lib.hid (fun j (hj : j < k + 1) => show (!mayT (tz l j)) = false from by
          rcases Nat.lt_or_ge j k with h1 | h1
          · exact gI.out j h1
          · rw [show j = k by omega]; exact gQ.out)
        clear gI gQ
        go_wp2_with (go_at_call 77; refine hf.mono ?_; rintro en w2 ⟨rfl, hb2⟩)
        go_roundw
        case rel => exact ⟨k + 1, by omega, by go_num, gI', hB.trans (hb2.mono hB.size)⟩
        case measure => simp [intOf]; omega
    · obtain rfl : k = n := by omega
      clear hat
      go_wp2
      go_ret
      exact ⟨hB, .inr ⟨rfl, gI.out⟩⟩
theorem notmay (a b : Int) (w : World) (Q : Bool) (hQ : (!mayT (a, b)) = Q) : Calls Try.prog 77 #[.agg #[.int .i64 a, .int .i64 b]] w fun en w' => en = .returned (.bool Q) ∧ Below w.heap.size w w' := by
  obtain ⟨P, hP⟩ : ∃ P, mayT (a, b) = P := ⟨_, rfl⟩
  have hm := dmay a b (w.alloc (.cells #[.int .i64 a, .int .i64 b] 73)) P hP
  have hB := (Below.refl w.heap.size w).alloc (Nat.le_refl _) (.cells #[.int .i64 a, .int .i64 b] 73)
  rw [hP] at hQ
  subst hQ
  clear hP
  go_enter Try.func77, Try.ntmps77
  go_wp2_with (go_at_call 78; refine hm.mono ?_; rintro en w2 ⟨rfl, hb2⟩)
  go_ret
  exact ⟨rfl, hB.trans (hb2.mono hB.size)⟩
set_option maxHeartbeats 2000000 in
theorem hasbad (A : Option Addr) (n c : Nat) (l : List Tm) (hn : n ≤ 5000) (w : World) (h : Tms w w.heap.size A n l) (Q : Bool) (hQ : (l.any fun t => !mayT t) = Q) : Calls Try.prog 76 #[.slice A n c, .func (.func 77) #[] #[]] w fun en w' => en = .returned (.bool Q) ∧ Below w.heap.size w w' := by
  have hi := idx_may A n c l hn w h (fun w' a b _ Q hQ => notmay a b w' Q hQ)
  have hl := h.1
  have gq : Hid (∀ k, k < n → (!mayT (tz l k)) = true → Q = true) := Lib.hid (fun k hk hm => by
    rw [← hQ, List.any_eq_true]
    exact ⟨tz l k, List.mem_of_getElem? (tz_lt (by omega)), hm⟩)
  have gq2 : Hid ((∀ j, j < n → (!mayT (tz l j)) = false) → Q = false) := Lib.hid (fun hj => by
    rw [← hQ, List.any_eq_false]
    intro t ht
    obtain ⟨j, hj2, rfl⟩ := List.getElem_of_mem ht
    have := hj j (by omega)
    rw [tz_some (List.getElem?_eq_getElem hj2)] at this
    simpa using this)
  clear h hQ hl
  go_enter Try.func76, Try.ntmps76
  go_wp2_with fail
  refine hi.mono ?_
  rintro en w1 ⟨hb, ⟨k, hk, rfl, hm, _⟩ | ⟨rfl, hm⟩⟩
  · have e := gq.out k hk hm
    have i1 : decide (0 ≤ (k : Int)) = true := decide_eq_true (by omega)
    clear hm hi gq gq2
    go_wp2
    go_ret
    subst e
    exact ⟨rfl, hb⟩
  · have e := gq2.out hm
    clear hm hi gq gq2
    go_wp2
    go_ret
    subst e
    exact ⟨rfl, hb⟩
/-- What desc.Check answers. -/
def chkD (l : List Tm) : Int := if 64 < l.length then 4 else if (l.any fun t => !mayT t) then 8 else 0
theorem dscheck_any (A : Option Addr) (n c : Nat) (l : List Tm) (hn : n ≤ 5000) (w : World) (h : Tms w w.heap.size A n l) (E : Int) (hE : chkD l = E) : Calls Try.prog 42 #[.slice A n c] w fun en w' => en = .returned (.int .i64 E) ∧ Below w.heap.size w w' := by
  have hl := h.1
  unfold chkD at hE
  rw [hl] at hE
  by_cases h64 : 64 < n
  · rw [if_pos h64] at hE
    subst hE
    have d1 : decide ((64 : Int) < (n : Int)) = true := decide_eq_true (by omega)
    have d2 : decide (64 < n) = true := decide_eq_true h64
    clear h hl
    go_enter Try.func42, Try.ntmps42
    go_wp2
    go_ret
    exact ⟨rfl, Below.refl _ _⟩
  · rw [if_neg h64] at hE
    have d1 : decide ((64 : Int) < (n : Int)) = false := decide_eq_false (by omega)
    have d2 : decide (64 < n) = false := decide_eq_false h64
    obtain ⟨Q, hQ⟩ : ∃ Q, (l.any fun t => !mayT t) = Q := ⟨_, rfl⟩
    have hb := hasbad A n c l hn w h Q hQ
    rw [hQ] at hE
    clear hQ h hl
    cases Q
    · have hE0 : (0 : Int) = E := by simpa using hE
      subst hE0
      clear hE
      go_enter Try.func42, Try.ntmps42
      go_wp2_with fail
      refine hb.mono ?_
      rintro en w1 ⟨rfl, hb1⟩
      go_wp2
      go_ret
      exact ⟨rfl, hb1⟩
    · have hE0 : (8 : Int) = E := by simpa using hE
      subst hE0
      clear hE
      go_enter Try.func42, Try.ntmps42
      go_wp2_with fail
      refine hb.mono ?_
      rintro en w1 ⟨rfl, hb1⟩
      go_wp2
      go_ret
      exact ⟨rfl, hb1⟩
end Go.Proofs.Ytjmhefkmpfkpbaa
