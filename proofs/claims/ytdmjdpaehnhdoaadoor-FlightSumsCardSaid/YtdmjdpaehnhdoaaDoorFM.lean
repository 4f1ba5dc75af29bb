/- Flight's Door: mail.Check's parts -/
import Derived.Test.YtdmjdpaehnhdoaaDoorKA
import Derived.Test.YtdmjdpaehnhdoaaDoorMA
import Derived.WalkMore
import Derived.IntWalk
import Derived.Lib.Hide
import Derived.BigQuiet
namespace Go.Proofs.YtdmjdpaehnhdoaaDoor
open Go.ChangeShapes Go.WideShapes Go.ChangeAt Go.RowKit
set_option linter.unusedSimpArgs false
set_option linter.unusedVariables false
abbrev Tm := Int × Int
def tz (l : List Tm) (i : Nat) : Tm := l.getD i (0, 0)
theorem tz_lt {l : List Tm} {i : Nat} (h : i < l.length) : l[i]? = some (tz l i) := by
  unfold tz
  rw [List.getD_eq_getElem?_getD, List.getElem?_eq_getElem h]; rfl
def vT (t : Tm) : List Value := [.int .i64 t.1, .int .i64 t.2]
def T2 (l : List Tm) : List Value := l.flatMap vT
theorem T2_len (l : List Tm) : (T2 l).length = l.length * 2 := by
  induction l with
  | nil => rfl
  | cons x r ih => rw [T2, List.flatMap_cons, List.length_append, show (r.flatMap vT).length = r.length * 2 from ih, List.length_cons]; simp [vT]; omega
theorem T2_at : ∀ (l : List Tm) (i : Nat) (t : Tm), l[i]? = some t → (T2 l)[i * 2]? = some (.int .i64 t.1) ∧ (T2 l)[i * 2 + 1]? = some (.int .i64 t.2)
  | [], i, t, h => by simp at h
  | x :: r, 0, t, h => by
    injection h with h
    subst h
    exact ⟨rfl, rfl⟩
  | x :: r, i + 1, t, h => by
    have := T2_at r i t (by simpa using h)
    rw [show (i + 1) * 2 = i * 2 + 2 by omega]
    exact ⟨this.1, this.2⟩
theorem T2_one (l : List Tm) : ∀ u ∈ T2 l, u.oneCell' = true := by
  intro u hu
  obtain ⟨t, _, ht⟩ := List.mem_flatMap.1 hu
  simp [vT] at ht
  rcases ht with rfl | rfl <;> rfl
/-- A row of timers. -/
def Tms (w : World) (B : Nat) (A : Option Addr) (n : Nat) (l : List Tm) : Prop := l.length = n ∧ Reads w B 2 A n (T2 l)
section
variable {w w' : World} {B B' n : Nat} {A : Option Addr} {l : List Tm}
theorem Tms.below (h : Tms w B A n l) (hb : Below B w w') : Tms w' B A n l := ⟨h.1, h.2.below hb⟩
theorem Tms.more (h : Tms w B A n l) (hB : B ≤ B') : Tms w B' A n l := ⟨h.1, h.2.more hB⟩
theorem Tms.none_ : Tms w B A 0 [] := ⟨rfl, Reads.none_⟩
theorem Tms.go (h : Tms w B A n l) (hb : Below B w w') (hB : B ≤ w'.heap.size) : Tms w' w'.heap.size A n l := (h.below hb).more hB
theorem add_lit (a : Addr) {j : Nat} (h : 0 < j) : a.add j = ⟨a.block, a.off + j, none⟩ := by
  unfold Addr.add
  rw [if_neg (by omega)]
theorem Tms.at_ {i : Nat} (h : Tms w B A n l) (hi : i < n) : ∃ ad, A = some ad ∧ ad.block < B ∧ ∀ w', Below B w w' → w'.cell? (ad.add (i * 2)) = some (.int .i64 (tz l i).1) ∧ w'.cell? ⟨(ad.add (i * 2)).block, (ad.add (i * 2)).off + 1, none⟩ = some (.int .i64 (tz l i).2) := by
  obtain ⟨ad, e, hb, hc⟩ := h.2.2 (by omega)
  have ht := T2_at l i (tz l i) (tz_lt (by rw [h.1]; exact hi))
  have h0 := hc _ _ ht.1
  have h1 := hc _ _ ht.2
  rw [← add_of_add, add_lit _ (by omega)] at h1
  exact ⟨ad, e, hb, fun w' hw => ⟨(hw.cell (by rw [block_of_add]; exact hb)).trans h0, (hw.cell (by show (ad.add (i * 2)).block < B; rw [block_of_add]; exact hb)).trans h1⟩⟩
theorem Tms.of_own {base : Nat} {e : TypeId} {c : Nat} (h : w.ownsRow base e 2 (.slice A n c) n (T2 l)) (hl : l.length = n) : Tms w w.heap.size A n l := ⟨hl, Reads.of_own h⟩
end
/-- May a descriptor be? -/
def mayT (t : Tm) : Bool := decide (0 ≤ t.1) && decide (t.1 < 8) && decide (0 ≤ t.2) && decide (t.2 ≤ 2147483647)
set_option maxHeartbeats 4000000 in
theorem dmay (a b : Int) (w : World) (R : Bool) (hR : mayT (a, b) = R) : Calls Tryd.prog 95 #[.agg #[.int .i64 a, .int .i64 b]] w fun en w' => en = .returned (.bool R) ∧ Below w.heap.size w w' := by
  obtain ⟨q0, hq0⟩ : ∃ q, decide (0 ≤ a) = q := ⟨_, rfl⟩
  obtain ⟨q1, hq1⟩ : ∃ q, decide (a < 8) = q := ⟨_, rfl⟩
  obtain ⟨q2, hq2⟩ : ∃ q, decide (0 ≤ b) = q := ⟨_, rfl⟩
  obtain ⟨q3, hq3⟩ : ∃ q, decide (b ≤ 2147483647) = q := ⟨_, rfl⟩
  have hB := (Below.refl w.heap.size w).alloc (Nat.le_refl _) (.cells #[.int .i64 a, .int .i64 b] 99)
  unfold mayT at hR
  simp only [hq0, hq1, hq2, hq3] at hR
  subst hR
  cases q0 <;> cases q1 <;> cases q2 <;> cases q3
  all_goals
    go_enter Tryd.func95, Tryd.ntmps95
    go_wp2
    go_ret
    exact ⟨rfl, hB⟩
/-- May an edge be? -/
def mayE (h : Bool) (x y : Int) : Bool := if h then decide (-2147483647 ≤ x) && decide (x ≤ y) && decide (y ≤ 2147483647) else (x == 0 && y == 0)
set_option maxHeartbeats 4000000 in
theorem edge_any (h : Bool) (x y : Int) (w : World) (R : Bool) (hR : mayE h x y = R) : Calls Tryd.prog 64 #[.agg #[.bool h, .int .i64 x, .int .i64 y]] w fun en w' => en = .returned (.bool R) ∧ Below w.heap.size w w' := by
  obtain ⟨q0, hq0⟩ : ∃ q, decide (-2147483647 ≤ x) = q := ⟨_, rfl⟩
  obtain ⟨q1, hq1⟩ : ∃ q, decide (x ≤ y) = q := ⟨_, rfl⟩
  obtain ⟨q2, hq2⟩ : ∃ q, decide (y ≤ 2147483647) = q := ⟨_, rfl⟩
  obtain ⟨q3, hq3⟩ : ∃ q, (x == 0) = q := ⟨_, rfl⟩
  obtain ⟨q4, hq4⟩ : ∃ q, (y == 0) = q := ⟨_, rfl⟩
  have hB := (Below.refl w.heap.size w).alloc (Nat.le_refl _) (.cells #[.bool h, .int .i64 x, .int .i64 y] 30)
  unfold mayE at hR
  simp only [hq0, hq1, hq2, hq3, hq4] at hR
  subst hR
  cases h
  · clear hq0 hq1 hq2
    cases q3 <;> cases q4
    all_goals
      go_enter Tryd.func64, Tryd.ntmps64
      go_wp2
      go_ret
      exact ⟨rfl, hB⟩
  · clear hq3 hq4
    cases q0 <;> cases q1 <;> cases q2
    all_goals
      go_enter Tryd.func64, Tryd.ntmps64
      go_wp2
      go_ret
      exact ⟨rfl, hB⟩
set_option maxHeartbeats 400000 in
theorem tz_some {l : List Tm} {i : Nat} {t : Tm} (h : l[i]? = some t) : tz l i = t := by
  unfold tz
  rw [List.getD_eq_getElem?_getD, h]; rfl
set_option maxHeartbeats 4000000 in
theorem idx_may (A : Option Addr) (n c : Nat) (l : List Tm) (hn : n ≤ 5000) (w : World) (h : Tms w w.heap.size A n l) (hclo : ∀ w' a b, Below w.heap.size w w' → ∀ Q, (!mayT (a, b)) = Q → Calls Tryd.prog 94 #[.agg #[.int .i64 a, .int .i64 b]] w' fun en w'' => en = .returned (.bool Q) ∧ Below w'.heap.size w' w'') : Calls Tryd.prog 116 #[.slice A n c, .func (.func 94) #[] #[]] w fun en w' => Below w.heap.size w w' ∧ ((∃ k, k < n ∧ en = .returned (.int .i64 (k : Int)) ∧ (!mayT (tz l k)) = true ∧ ∀ j, j < k → (!mayT (tz l j)) = false) ∨ (en = .returned (.int .i64 (-1)) ∧ ∀ j, j < n → (!mayT (tz l j)) = false)) := by
  have hat : Hid (∀ k, k < n → ∃ ad, A = some ad ∧ ad.block < w.heap.size ∧ ∀ w', Below w.heap.size w w' → w'.cell? (ad.add (k * 2)) = some (.int .i64 (tz l k).1) ∧ w'.cell? ⟨(ad.add (k * 2)).block, (ad.add (k * 2)).off + 1, none⟩ = some (.int .i64 (tz l k).2)) := Lib.hid (fun k hk => h.at_ hk)
  have hB0 := Below.refl w.heap.size w
  clear h
  go_enter Tryd.func116, Tryd.ntmps116
  go_wp2
  go_loopw [8] (fun t wr => ∃ (k : Nat), k ≤ n ∧ t = .int .i64 (k : Int) ∧ Hid (∀ j, j < k → (!mayT (tz l j)) = false) ∧ Below w.heap.size w wr) (fun t _ => n - (intOf t).toNat)
  case atStart => exact ⟨0, Nat.zero_le _, rfl, Lib.hid (fun j hj => by omega), hB0⟩
  case round =>
    clear hB0
    obtain ⟨k, hk, rfl, gI, hB⟩ := hrel
    by_cases hlt : k < n
    · obtain ⟨ad, rfl, hab, hc⟩ := hat.out k hlt
      obtain ⟨c0, c1⟩ := hc wr hB
      have i1 : (0 : Int) ≤ k := by omega
      have i2 : (k : Int) < n := by omega
      obtain ⟨Q, hQ⟩ : ∃ Q, (!mayT (tz l k)) = Q := ⟨_, rfl⟩
      have hf := hclo wr (tz l k).1 (tz l k).2 hB Q hQ
      have gQ := Lib.hid hQ
      clear hQ hclo
      generalize hx : (tz l k).1 = x at c0 c1 hf
      generalize hy : (tz l k).2 = y at c0 c1 hf
      clear hc hx hy
      cases Q with
      | true =>
        go_wp2_with (go_at_call 94; refine hf.mono ?_; rintro en w2 ⟨rfl, hb2⟩)
        go_ret
        exact ⟨hB.trans (hb2.mono hB.size), .inl ⟨k, hlt, rfl, gQ.out, gI.out⟩⟩
      | false =>
        have gI' := Lib.hid (fun j (hj : j < k + 1) => show (!mayT (tz l j)) = false from by
          rcases Nat.lt_or_ge j k with h1 | h1
          · exact gI.out j h1
          · rw [show j = k by omega]; exact gQ.out)
        clear gI gQ
        go_wp2_with (go_at_call 94; refine hf.mono ?_; rintro en w2 ⟨rfl, hb2⟩)
        go_roundw
        case rel => exact ⟨k + 1, by omega, by go_num, gI', hB.trans (hb2.mono hB.size)⟩
        case measure => simp [intOf]; omega
    · obtain rfl : k = n := by omega
      clear hat
      go_wp2
      go_ret
      exact ⟨hB, .inr ⟨rfl, gI.out⟩⟩
theorem notmay (a b : Int) (w : World) (Q : Bool) (hQ : (!mayT (a, b)) = Q) : Calls Tryd.prog 94 #[.agg #[.int .i64 a, .int .i64 b]] w fun en w' => en = .returned (.bool Q) ∧ Below w.heap.size w w' := by
  obtain ⟨P, hP⟩ : ∃ P, mayT (a, b) = P := ⟨_, rfl⟩
  have hm := dmay a b (w.alloc (.cells #[.int .i64 a, .int .i64 b] 99)) P hP
  have hB := (Below.refl w.heap.size w).alloc (Nat.le_refl _) (.cells #[.int .i64 a, .int .i64 b] 99)
  rw [hP] at hQ
  subst hQ
  clear hP
  go_enter Tryd.func94, Tryd.ntmps94
  go_wp2_with (go_at_call 95; refine hm.mono ?_; rintro en w2 ⟨rfl, hb2⟩)
  go_ret
  exact ⟨rfl, hB.trans (hb2.mono hB.size)⟩
set_option maxHeartbeats 2000000 in
theorem hasbad (A : Option Addr) (n c : Nat) (l : List Tm) (hn : n ≤ 5000) (w : World) (h : Tms w w.heap.size A n l) (Q : Bool) (hQ : (l.any fun t => !mayT t) = Q) : Calls Tryd.prog 93 #[.slice A n c, .func (.func 94) #[] #[]] w fun en w' => en = .returned (.bool Q) ∧ Below w.heap.size w w' := by
  have hi := idx_may A n c l hn w h (fun w' a b _ Q hQ => notmay a b w' Q hQ)
  have hl := h.1
  have gq : Hid (∀ k, k < n → (!mayT (tz l k)) = true → Q = true) := Lib.hid (fun k hk hm => by
    rw [← hQ, List.any_eq_true]
    exact ⟨tz l k, List.mem_of_getElem? (tz_lt (by omega)), hm⟩)
  have gq2 : Hid ((∀ j, j < n → (!mayT (tz l j)) = false) → Q = false) := Lib.hid (fun hj => by
    rw [← hQ, List.any_eq_false]
    intro t ht
    obtain ⟨j, hj2, rfl⟩ := List.getElem_of_mem ht
    have := hj j (by omega)
    rw [tz_some (List.getElem?_eq_getElem hj2)] at this
    simpa using this)
  clear h hQ hl
  go_enter Tryd.func93, Tryd.ntmps93
  go_wp2_with fail
  refine hi.mono ?_
  rintro en w1 ⟨hb, ⟨k, hk, rfl, hm, _⟩ | ⟨rfl, hm⟩⟩
  · have e := gq.out k hk hm
    have i1 : decide (0 ≤ (k : Int)) = true := decide_eq_true (by omega)
    clear hm hi gq gq2
    go_wp2
    go_ret
    subst e
    exact ⟨rfl, hb⟩
  · have e := gq2.out hm
    clear hm hi gq gq2
    go_wp2
    go_ret
    subst e
    exact ⟨rfl, hb⟩
/-- What desc.Check answers. -/
def chkD (l : List Tm) : Int := if 64 < l.length then 4 else if (l.any fun t => !mayT t) then 8 else 0
theorem dscheck_any (A : Option Addr) (n c : Nat) (l : List Tm) (hn : n ≤ 5000) (w : World) (h : Tms w w.heap.size A n l) (E : Int) (hE : chkD l = E) : Calls Tryd.prog 63 #[.slice A n c] w fun en w' => en = .returned (.int .i64 E) ∧ Below w.heap.size w w' := by
  have hl := h.1
  unfold chkD at hE
  rw [hl] at hE
  by_cases h64 : 64 < n
  · rw [if_pos h64] at hE
    subst hE
    have d1 : decide ((64 : Int) < (n : Int)) = true := decide_eq_true (by omega)
    have d2 : decide (64 < n) = true := decide_eq_true h64
    clear h hl
    go_enter Tryd.func63, Tryd.ntmps63
    go_wp2
    go_ret
    exact ⟨rfl, Below.refl _ _⟩
  · rw [if_neg h64] at hE
    have d1 : decide ((64 : Int) < (n : Int)) = false := decide_eq_false (by omega)
    have d2 : decide (64 < n) = false := decide_eq_false h64
    obtain ⟨Q, hQ⟩ : ∃ Q, (l.any fun t => !mayT t) = Q := ⟨_, rfl⟩
    have hb := hasbad A n c l hn w h Q hQ
    rw [hQ] at hE
    clear hQ h hl
    cases Q
    · have hE0 : (0 : Int) = E := by simpa using hE
      subst hE0
      clear hE
      go_enter Tryd.func63, Tryd.ntmps63
      go_wp2_with fail
      refine hb.mono ?_
      rintro en w1 ⟨rfl, hb1⟩
      go_wp2
      go_ret
      exact ⟨rfl, hb1⟩
    · have hE0 : (8 : Int) = E := by simpa using hE
      subst hE0
      clear hE
      go_enter Tryd.func63, Tryd.ntmps63
      go_wp2_with fail
      refine hb.mono ?_
      rintro en w1 ⟨rfl, hb1⟩
      go_wp2
      go_ret
      exact ⟨rfl, hb1⟩
set_option maxHeartbeats 4000000 in
theorem dequal_any (A A2 : Option Addr) (n n2 c c2 B B2 : Nat) (a b : List Tm) (hm : n ≤ 100000) (w : World) (hR : Tms w B A n a) (hR2 : Tms w B2 A2 n2 b) :
    Calls Tryd.prog 117 #[.slice A n c, .slice A2 n2 c2] w fun en w' => en = .returned (.bool (decide (a = b))) ∧ ∃ m, w' = w.drewN m := by
  have hn := hR.1
  have hn2 := hR2.1
  by_cases hlen : n = n2
  · subst hlen
    have no : ∀ k, k < n → tz a k ≠ tz b k → decide (a = b) = false := fun k _ h => decide_eq_false (fun e => h (by rw [e]))
    have yes : (∀ k, k < n → tz a k = tz b k) → decide (a = b) = true := fun h => decide_eq_true (by
      apply List.ext_getElem (by omega)
      intro i h1 h2
      have := h i (by omega)
      rwa [tz_some (List.getElem?_eq_getElem h1), tz_some (List.getElem?_eq_getElem h2)] at this)
    obtain ⟨R, hRr⟩ : ∃ R, decide (a = b) = R := ⟨_, rfl⟩
    rw [hRr] at no yes ⊢
    have gno := Lib.hid no
    have gyes := Lib.hid yes
    have gR := Lib.hid hR
    have gR2 := Lib.hid hR2
    have t1 : ((n : Int) != n) = false := by simp
    clear no yes hRr hn hn2 hR hR2
    go_enter Tryd.func117, Tryd.ntmps117
    go_wp2
    go_loopw [13] (fun t wr => ∃ k m : Nat, k ≤ n ∧ t = .int .i64 (k : Int) ∧ Hid (∀ j, j < k → tz a j = tz b j) ∧ wr = w.drewN m) (fun t _ => n - (intOf t).toNat)
    case atStart => exact ⟨0, 0, Nat.zero_le _, rfl, Lib.hid (fun j h1 => by omega), rfl⟩
    case round =>
      obtain ⟨k, m, hk, rfl, h0, rfl⟩ := hrel
      by_cases hlt : k < n
      · obtain ⟨ad, rfl, hab, hc⟩ := gR.out.at_ hlt
        obtain ⟨ad2, rfl, hab2, hc2⟩ := gR2.out.at_ hlt
        obtain ⟨a0, a1⟩ := hc w (Below.refl _ _)
        obtain ⟨b0, b1⟩ := hc2 w (Below.refl _ _)
        have i1 : (0 : Int) ≤ k := by omega
        have i2 : (k : Int) < n := by omega
        obtain ⟨x, hx⟩ : ∃ x, tz a k = x := ⟨_, rfl⟩
        obtain ⟨y, hy⟩ : ∃ y, tz b k = y := ⟨_, rfl⟩
        rw [hx] at a0 a1
        rw [hy] at b0 b1
        by_cases h : x = y
        · subst h
          have h0' : Hid (∀ i, i < k + 1 → tz a i = tz b i) := Lib.hid (fun i h1 => by
            rcases Nat.lt_or_ge i k with h3 | h3
            · exact h0.out i h3
            · rw [show i = k by omega, hx, hy])
          obtain ⟨x1, x2⟩ := x
          simp only at a0 a1 b0 b1
          clear hx hy gR gR2 gno gyes h0 hc hc2
          go_wp2_with fail
          go_quiet (fail)
          go_wp2
          go_roundw
          case rel => exact ⟨k + 1, _, by omega, by go_num, h0', rfl⟩
          case measure => simp [intOf] <;> omega
        · obtain rfl := gno.out k hlt (by rw [hx, hy]; exact h)
          obtain ⟨x1, x2⟩ := x
          obtain ⟨y1, y2⟩ := y
          simp only at a0 a1 b0 b1
          have h12 : ¬ (x1 = y1 ∧ x2 = y2) := fun e => h (by rw [e.1, e.2])
          obtain ⟨q1, hq1⟩ : ∃ q, (x1 == y1) = q := ⟨_, rfl⟩
          obtain ⟨q2, hq2⟩ : ∃ q, (x2 == y2) = q := ⟨_, rfl⟩
          have hqq : (q1 && q2) = false := by
            rw [← hq1, ← hq2]
            simp only [Bool.and_eq_false_iff, beq_eq_false_iff_ne]
            by_cases e : x1 = y1
            · exact .inr (fun e2 => h12 ⟨e, e2⟩)
            · exact .inl e
          clear hx hy gR gR2 gyes h0 gno hc hc2 h h12
          cases q1 <;> cases q2
          case true.true => cases hqq
          all_goals
            clear hqq
            go_wp2_with fail
            go_quiet (fail)
            go_wp2
            go_ret
            refine ⟨rfl, ?_⟩
            simp only [World.drewN_drewN]
            exact ⟨_, rfl⟩
      · obtain rfl : k = n := by omega
        obtain rfl := gyes.out h0.out
        clear gR gR2 gno gyes h0
        go_wp2
        go_ret
        exact ⟨rfl, m, rfl⟩
  · rw [decide_eq_false (show ¬ a = b from fun e => hlen (by rw [← hn, ← hn2, e]))]
    have t1 : ((n : Int) != n2) = true := by simp; omega
    have t2 : (n != n2) = true := by simpa using hlen
    clear hR hR2 hn hn2
    go_enter Tryd.func117, Tryd.ntmps117
    go_wp2
    go_ret
    exact ⟨rfl, 0, rfl⟩
theorem descsame_any (A A2 : Option Addr) (n n2 c c2 B B2 : Nat) (a b : List Tm) (hm : n ≤ 100000) (w : World) (hR : Tms w B A n a) (hR2 : Tms w B2 A2 n2 b) (R : Bool) (hRR : decide (a = b) = R) :
    Calls Tryd.prog 96 #[.slice A n c, .slice A2 n2 c2] w fun en w' => en = .returned (.bool R) ∧ ∃ m, w' = w.drewN m := by
  have h := dequal_any A A2 n n2 c c2 B B2 a b hm w hR hR2
  rw [hRR] at h
  clear hR hR2 hRR
  go_enter Tryd.func96, Tryd.ntmps96
  go_wp2_with fail
  refine h.mono ?_
  rintro en w1 ⟨rfl, m, rfl⟩
  go_wp2
  go_ret
  exact ⟨rfl, m, rfl⟩
/-- Numbers that rise. -/
def rises (l : List Nat) : Prop := ∀ i, i + 1 < l.length → l.getD i 0 < l.getD (i + 1) 0
set_option maxHeartbeats 4000000 in
theorem least_any (A : Option Addr) (n c B : Nat) (l : List Nat) (hn : l.length = n) (hm : n ≤ 100000) (w : World) (hR : Reads w B 1 A n (ints .u32 l)) :
    Calls Tryd.prog 65 #[.slice A n c] w fun en w' => ∃ R : Bool, en = .returned (.bool R) ∧ (R = true ↔ (rises l ∧ l.length ≤ 8)) ∧ ∃ m, w' = w.drewN m := by
  have gn := Lib.hid hn
  have gR := Lib.hid hR
  clear hn hR
  go_enter Tryd.func65, Tryd.ntmps65
  go_wp2
  go_loopw [3] (fun t wr => ∃ K m : Nat, 1 ≤ K ∧ K ≤ n + 1 ∧ t = .int .i64 (K : Int) ∧ Hid (∀ j, j + 1 < K → j + 1 < n → l.getD j 0 < l.getD (j + 1) 0) ∧ wr = w.drewN m) (fun t _ => n + 1 - (intOf t).toNat)
  case atStart => exact ⟨1, 0, Nat.le_refl _, by omega, rfl, Lib.hid (fun j h1 => by omega), rfl⟩
  case round =>
    obtain ⟨K, m, hK1, hk, rfl, h0, rfl⟩ := hrel
    by_cases hlt : K < n
    · obtain ⟨k, hkK⟩ : ∃ k, K = k + 1 := ⟨K - 1, by omega⟩
      obtain ⟨ad, rfl, hab, cA⟩ := at_ints gn.out gR.out hlt
      obtain ⟨ad2, e2, hab2, cA2⟩ := at_ints gn.out gR.out (show k < n by omega)
      injection e2 with e2
      subst e2
      have i1 : (0 : Int) ≤ (K : Int) := by omega
      have i2 : (K : Int) < n := by omega
      have i3 : (0 : Int) ≤ k := by omega
      have i4 : (k : Int) < n := by omega
      have w1 : IntKind.i64.wrap ((K : Int) - 1) = k := by rw [show (K : Int) - 1 = k by omega]; exact IntWalk.i64_in _ (by omega)
      obtain ⟨x, hx⟩ : ∃ x, l.getD K 0 = x := ⟨_, rfl⟩
      obtain ⟨y, hy⟩ : ∃ y, l.getD k 0 = y := ⟨_, rfl⟩
      rw [hx] at cA
      rw [hy] at cA2
      by_cases h : x ≤ y
      · have t1 : decide ((x : Int) ≤ y) = true := decide_eq_true (by omega)
        have t2 : decide (x ≤ y) = true := decide_eq_true h
        have gno : Hid (¬ rises l) := Lib.hid (fun hr => by have := hr k (by rw [gn.out]; omega); rw [← hkK, hx, hy] at this; omega)
        have gk := Lib.hid hkK
        clear hx hy h0 gR hkK hK1
        go_wp2_with fail
        go_quiet (fail)
        go_wp2
        go_ret
        refine ⟨false, rfl, ⟨(fun h => by cases h), fun h => absurd h.1 gno.out⟩, ?_⟩
        simp only [World.drewN_drewN]
        exact ⟨_, rfl⟩
      · have t1 : decide ((x : Int) ≤ y) = false := decide_eq_false (by omega)
        have t2 : decide (x ≤ y) = false := decide_eq_false h
        have h0' : Hid (∀ j, j + 1 < K + 1 → j + 1 < n → l.getD j 0 < l.getD (j + 1) 0) := Lib.hid (fun i h1 h2 => by
          rcases Nat.lt_or_ge i k with h3 | h3
          · exact h0.out i (by omega) h2
          · rw [show i = k by omega, ← hkK, hx, hy]; omega)
        have gk := Lib.hid hkK
        clear hx hy h0 h hkK
        go_wp2_with fail
        go_quiet (fail)
        go_wp2
        go_roundw
        case rel => exact ⟨K + 1, _, by omega, by omega, by go_num, h0', rfl⟩
        case measure => simp [intOf] <;> omega
    · have gr : Hid (rises l) := Lib.hid (fun i hi => h0.out i (by have := gn.out; omega) (by have := gn.out; omega))
      obtain ⟨R, hR⟩ : ∃ R, decide (n ≤ 8) = R := ⟨_, rfl⟩
      have hR2 : decide ((n : Int) ≤ 8) = R := by rw [← hR]; simp; omega
      have gRR := Lib.hid hR
      clear h0
      cases R
      all_goals
        go_wp2
        go_ret
        refine ⟨_, rfl, ?_, m, rfl⟩
        have := gRR.out
        have h2 := gn.out
        have h3 := gr.out
        simp at this
        simp [h3, h2]
        try omega
def badN (x : Int) : Bool := decide (x < 0) || decide (8 ≤ x)
theorem nbad (x : Int) (w : World) (Q : Bool) (hQ : badN x = Q) : Calls Tryd.prog 92 #[.int .i64 x] w fun en w' => en = .returned (.bool Q) ∧ w = w' := by
  obtain ⟨q0, hq0⟩ : ∃ q, decide (x < 0) = q := ⟨_, rfl⟩
  obtain ⟨q1, hq1⟩ : ∃ q, decide (8 ≤ x) = q := ⟨_, rfl⟩
  unfold badN at hQ
  rw [hq0, hq1] at hQ
  subst hQ
  cases q0 <;> cases q1
  all_goals
    go_enter Tryd.func92, Tryd.ntmps92
    go_wp2
    go_ret
    exact ⟨rfl, rfl⟩
theorem nidx (g : Nat) (a b : Int) (w : World) (ca : w.cell? ⟨g, 0, none⟩ = some (.int .i64 a)) (cb : w.cell? ⟨g, 1, none⟩ = some (.int .i64 b)) :
    Calls Tryd.prog 115 #[.slice (some ⟨g, 0, none⟩) 2 2, .func (.func 92) #[] #[]] w fun en w' => (∃ r : Int, en = .returned (.int .i64 r) ∧ ((r = 0 ∧ badN a = true) ∨ (r = 1 ∧ badN b = true) ∨ (r = -1 ∧ badN a = false ∧ badN b = false))) ∧ w = w' := by
  obtain ⟨qa, hqa⟩ : ∃ q, badN a = q := ⟨_, rfl⟩
  obtain ⟨qb, hqb⟩ : ∃ q, badN b = q := ⟨_, rfl⟩
  have fa := fun w' => nbad a w' qa hqa
  have fb := fun w' => nbad b w' qb hqb
  rw [hqa, hqb]
  clear hqa hqb
  cases qa <;> cases qb
  all_goals
    go_enter Tryd.func115, Tryd.ntmps115
    go_wp2
  · go_loopw [8] (fun t wr => (t = .int .i64 0 ∨ t = .int .i64 1 ∨ t = .int .i64 2) ∧ w = wr) (fun t _ => 2 - (intOf t).toNat)
    case atStart => exact ⟨.inl rfl, rfl⟩
    case round =>
      obtain ⟨rfl | rfl | rfl, rfl⟩ := hrel
      · go_wp2_with (go_at_call 92; refine (fa _).mono ?_; rintro en w2 ⟨rfl, rfl⟩)
        go_roundw
        case rel => exact ⟨.inr (.inl rfl), (by first | rfl | trivial)⟩
        case measure => simp [intOf]
      · go_wp2_with (go_at_call 92; refine (fb _).mono ?_; rintro en w2 ⟨rfl, rfl⟩)
        go_roundw
        case rel => exact ⟨.inr (.inr rfl), (by first | rfl | trivial)⟩
        case measure => simp [intOf]
      · go_wp2
        go_ret
        exact ⟨⟨-1, rfl, .inr (.inr ⟨(by first | rfl | trivial), (by first | rfl | trivial), (by first | rfl | trivial)⟩)⟩, (by first | rfl | trivial)⟩
  · go_loopw [8] (fun t wr => (t = .int .i64 0 ∨ t = .int .i64 1) ∧ w = wr) (fun t _ => 2 - (intOf t).toNat)
    case atStart => exact ⟨.inl rfl, rfl⟩
    case round =>
      obtain ⟨rfl | rfl, rfl⟩ := hrel
      · go_wp2_with (go_at_call 92; refine (fa _).mono ?_; rintro en w2 ⟨rfl, rfl⟩)
        go_roundw
        case rel => exact ⟨.inr rfl, (by first | rfl | trivial)⟩
        case measure => simp [intOf]
      · go_wp2_with (go_at_call 92; refine (fb _).mono ?_; rintro en w2 ⟨rfl, rfl⟩)
        go_ret
        exact ⟨⟨1, rfl, .inr (.inl ⟨(by first | rfl | trivial), (by first | rfl | trivial)⟩)⟩, (by first | rfl | trivial)⟩
  · go_loopw [8] (fun t wr => t = .int .i64 0 ∧ w = wr) (fun t _ => 2 - (intOf t).toNat)
    case atStart => exact ⟨rfl, rfl⟩
    case round =>
      obtain ⟨rfl, rfl⟩ := hrel
      go_wp2_with (go_at_call 92; refine (fa _).mono ?_; rintro en w2 ⟨rfl, rfl⟩)
      go_ret
      exact ⟨⟨0, rfl, .inl ⟨(by first | rfl | trivial), (by first | rfl | trivial)⟩⟩, (by first | rfl | trivial)⟩
  · go_loopw [8] (fun t wr => t = .int .i64 0 ∧ w = wr) (fun t _ => 2 - (intOf t).toNat)
    case atStart => exact ⟨rfl, rfl⟩
    case round =>
      obtain ⟨rfl, rfl⟩ := hrel
      go_wp2_with (go_at_call 92; refine (fa _).mono ?_; rintro en w2 ⟨rfl, rfl⟩)
      go_ret
      exact ⟨⟨0, rfl, .inl ⟨(by first | rfl | trivial), (by first | rfl | trivial)⟩⟩, (by first | rfl | trivial)⟩
theorem node_any (g : Nat) (a b : Int) (w : World) (ca : w.cell? ⟨g, 0, none⟩ = some (.int .i64 a)) (cb : w.cell? ⟨g, 1, none⟩ = some (.int .i64 b)) :
    Calls Tryd.prog 62 #[.slice (some ⟨g, 0, none⟩) 2 2] w fun en w' => en = .returned (.bool (!(badN a || badN b))) ∧ w = w' := by
  have hc : Calls Tryd.prog 91 #[.slice (some ⟨g, 0, none⟩) 2 2, .func (.func 92) #[] #[]] w fun en w' => en = .returned (.bool (badN a || badN b)) ∧ w = w' := by
    have hi := nidx g a b w ca cb
    obtain ⟨Q, hQ⟩ : ∃ Q, (badN a || badN b) = Q := ⟨_, rfl⟩
    rw [hQ]
    have gQ := Lib.hid hQ
    clear ca cb hQ
    go_enter Tryd.func91, Tryd.ntmps91
    go_wp2_with fail
    refine hi.mono ?_
    rintro en w1 ⟨⟨r, rfl, ⟨rfl, h⟩ | ⟨rfl, h⟩ | ⟨rfl, h, h2⟩⟩, rfl⟩
    · obtain rfl : true = Q := by rw [← gQ.out, h]; simp
      clear h
      go_wp2
      go_ret
      exact ⟨rfl, rfl⟩
    · obtain rfl : true = Q := by rw [← gQ.out, h]; simp
      clear h
      go_wp2
      go_ret
      exact ⟨rfl, rfl⟩
    · obtain rfl : false = Q := by rw [← gQ.out, h, h2]; simp
      clear h h2
      go_wp2
      go_ret
      exact ⟨rfl, rfl⟩
  generalize (badN a || badN b) = Q at hc
  clear ca cb
  go_enter Tryd.func62, Tryd.ntmps62
  go_wp2_with fail
  refine hc.mono ?_
  rintro en w1 ⟨rfl, rfl⟩
  cases Q
  all_goals
    go_wp2
    go_ret
    exact ⟨rfl, rfl⟩
end Go.Proofs.YtdmjdpaehnhdoaaDoor
