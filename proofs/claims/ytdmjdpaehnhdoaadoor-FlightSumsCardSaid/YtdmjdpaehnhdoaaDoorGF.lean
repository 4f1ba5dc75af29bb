/- Flight's Door: the reference: edges, descriptors, tags -/
import Derived.Test.YtdmjdpaehnhdoaaDoorFM
import Derived.Deep.QuietTactic
import Derived.BigQuiet
namespace Go.Proofs.YtdmjdpaehnhdoaaDoor
open Go.ChangeShapes Go.WideShapes Go.ChangeAt Go.RowKit
set_option linter.unusedSimpArgs false
set_option linter.unusedVariables false
set_option maxHeartbeats 4000000 in
theorem redge_any (h : Bool) (x y : Int) (w : World) (R : Bool) (hR : mayE h x y = R) : Calls Tryd.prog 70 #[.agg #[.bool h, .int .i64 x, .int .i64 y]] w fun en w' => en = .returned (.bool R) ∧ Below w.heap.size w w' := by
  obtain ⟨q0, hq0⟩ : ∃ q, decide (-2147483647 ≤ x) = q := ⟨_, rfl⟩
  obtain ⟨q1, hq1⟩ : ∃ q, decide (x ≤ y) = q := ⟨_, rfl⟩
  obtain ⟨q2, hq2⟩ : ∃ q, decide (y ≤ 2147483647) = q := ⟨_, rfl⟩
  obtain ⟨q3, hq3⟩ : ∃ q, (x == 0) = q := ⟨_, rfl⟩
  obtain ⟨q4, hq4⟩ : ∃ q, (y == 0) = q := ⟨_, rfl⟩
  have hB := (Below.refl w.heap.size w).alloc (Nat.le_refl _) (.cells #[.bool h, .int .i64 x, .int .i64 y] 30)
  unfold mayE at hR
  simp only [hq0, hq1, hq2, hq3, hq4] at hR
  subst hR
  cases h
  · clear hq0 hq1 hq2
    cases q3 <;> cases q4
    all_goals
      go_enter Tryd.func70, Tryd.ntmps70
      go_wp2
      go_ret
      exact ⟨rfl, hB⟩
  · clear hq3 hq4
    cases q0 <;> cases q1 <;> cases q2
    all_goals
      go_enter Tryd.func70, Tryd.ntmps70
      go_wp2
      go_ret
      exact ⟨rfl, hB⟩
set_option maxHeartbeats 4000000 in
theorem rtone_any (a b : Int) (w : World) (R : Bool) (hR : mayT (a, b) = R) : Calls Tryd.prog 98 #[.agg #[.int .i64 a, .int .i64 b]] w fun en w' => en = .returned (.bool R) ∧ Below w.heap.size w w' := by
  obtain ⟨q0, hq0⟩ : ∃ q, decide (0 ≤ a) = q := ⟨_, rfl⟩
  obtain ⟨q1, hq1⟩ : ∃ q, decide (a < 8) = q := ⟨_, rfl⟩
  obtain ⟨q2, hq2⟩ : ∃ q, decide (0 ≤ b) = q := ⟨_, rfl⟩
  obtain ⟨q3, hq3⟩ : ∃ q, decide (b ≤ 2147483647) = q := ⟨_, rfl⟩
  have hB := (Below.refl w.heap.size w).alloc (Nat.le_refl _) (.cells #[.int .i64 a, .int .i64 b] 99)
  unfold mayT at hR
  simp only [hq0, hq1, hq2, hq3] at hR
  subst hR
  cases q0 <;> cases q1 <;> cases q2 <;> cases q3
  all_goals
    go_enter Tryd.func98, Tryd.ntmps98
    go_wp2
    go_ret
    exact ⟨rfl, hB⟩
set_option maxHeartbeats 4000000 in
theorem rdcheck_any (A : Option Addr) (n c : Nat) (l : List Tm) (hn : n ≤ 5000) (w : World) (h : Tms w w.heap.size A n l) (E : Int) (hE : chkD l = E) : Calls Tryd.prog 69 #[.slice A n c] w fun en w' => en = .returned (.int .i64 E) ∧ Below w.heap.size w w' := by
  have hl := h.1
  unfold chkD at hE
  rw [hl] at hE
  have hB0 := Below.refl w.heap.size w
  by_cases h64 : 64 < n
  · rw [if_pos h64] at hE
    subst hE
    have d1 : decide ((64 : Int) < (n : Int)) = true := decide_eq_true (by omega)
    have d2 : decide (64 < n) = true := decide_eq_true h64
    clear h hl
    go_enter Tryd.func69, Tryd.ntmps69
    go_wp2
    go_ret
    exact ⟨rfl, hB0⟩
  · rw [if_neg h64] at hE
    have d1 : decide ((64 : Int) < (n : Int)) = false := decide_eq_false (by omega)
    have d2 : decide (64 < n) = false := decide_eq_false h64
    have gno : Hid (∀ k, k < n → mayT (tz l k) = false → E = 8) := Lib.hid (fun k hk hm => by
      rw [← hE, if_pos]
      rw [List.any_eq_true]
      exact ⟨tz l k, List.mem_of_getElem? (tz_lt (by omega)), by rw [hm]; rfl⟩)
    have gyes : Hid ((∀ j, j < n → mayT (tz l j) = true) → E = 0) := Lib.hid (fun hj => by
      rw [← hE, if_neg]
      intro ha
      rw [List.any_eq_true] at ha
      obtain ⟨x, hx, hm⟩ := ha
      obtain ⟨i, hi, rfl⟩ := List.getElem_of_mem hx
      have := hj i (by omega)
      rw [tz_some (List.getElem?_eq_getElem hi)] at this
      rw [this] at hm
      cases hm)
    have hat : Hid (∀ k, k < n → ∃ ad, A = some ad ∧ ad.block < w.heap.size ∧ ∀ w', Below w.heap.size w w' → w'.cell? (ad.add (k * 2)) = some (.int .i64 (tz l k).1) ∧ w'.cell? ⟨(ad.add (k * 2)).block, (ad.add (k * 2)).off + 1, none⟩ = some (.int .i64 (tz l k).2)) := Lib.hid (fun k hk => h.at_ hk)
    clear h hl hE
    go_enter Tryd.func69, Tryd.ntmps69
    go_wp2
    go_loopw [3] (fun t wr => ∃ (k : Nat), k ≤ n ∧ t = .int .i64 (k : Int) ∧ Hid (∀ j, j < k → mayT (tz l j) = true) ∧ Below w.heap.size w wr) (fun t _ => n - (intOf t).toNat)
    case atStart => exact ⟨0, Nat.zero_le _, rfl, Lib.hid (fun j hj => by omega), hB0⟩
    case round =>
      clear hB0 d1 d2 h64
      obtain ⟨k, hk, rfl, gI, hB⟩ := hrel
      by_cases hlt : k < n
      · obtain ⟨ad, rfl, hab, hc⟩ := hat.out k hlt
        obtain ⟨c0, c1⟩ := hc wr hB
        have i1 : (0 : Int) ≤ k := by omega
        have i2 : (k : Int) < n := by omega
        obtain ⟨Q, hQ⟩ : ∃ Q, mayT (tz l k) = Q := ⟨_, rfl⟩
        have hf := rtone_any (tz l k).1 (tz l k).2 wr Q hQ
        have gQ := Lib.hid hQ
        clear hQ
        generalize hx : (tz l k).1 = x at c0 c1 hf
        generalize hy : (tz l k).2 = y at c0 c1 hf
        clear hc hx hy
        cases Q with
        | false =>
          obtain rfl := gno.out k hlt gQ.out
          clear gno gyes hat gI gQ
          go_wp2_with fail
          refine hf.mono ?_
          rintro en w2 ⟨rfl, hb2⟩
          go_wp2
          go_ret
          exact ⟨rfl, hB.trans (hb2.mono hB.size)⟩
        | true =>
          have gI' := Lib.hid (fun j (hj : j < k + 1) => show mayT (tz l j) = true from by
            rcases Nat.lt_or_ge j k with h1 | h1
            · exact gI.out j h1
            · rw [show j = k by omega]; exact gQ.out)
          clear gI gQ
          go_wp2_with fail
          refine hf.mono ?_
          rintro en w2 ⟨rfl, hb2⟩
          go_wp2
          go_roundw
          case rel => exact ⟨k + 1, by omega, by go_num, gI', hB.trans (hb2.mono hB.size)⟩
          case measure => simp [intOf] <;> omega
      · obtain rfl : k = n := by omega
        obtain rfl := gyes.out gI.out
        clear hat gno gyes gI
        go_wp2
        go_ret
        exact ⟨rfl, hB⟩
set_option maxHeartbeats 4000000 in
theorem rdssame_any (A A2 : Option Addr) (n n2 c c2 B B2 : Nat) (a b : List Tm) (hm : n ≤ 100000) (w : World) (hR : Tms w B A n a) (hR2 : Tms w B2 A2 n2 b) :
    Calls Tryd.prog 44 #[.slice A n c, .slice A2 n2 c2] w fun en w' => en = .returned (.bool (decide (a = b))) ∧ ∃ m, w' = w.drewN m := by
  have hn := hR.1
  have hn2 := hR2.1
  by_cases hlen : n = n2
  · subst hlen
    have no : ∀ k, k < n → tz a k ≠ tz b k → decide (a = b) = false := fun k _ h => decide_eq_false (fun e => h (by rw [e]))
    have yes : (∀ k, k < n → tz a k = tz b k) → decide (a = b) = true := fun h => decide_eq_true (by
      apply List.ext_getElem (by omega)
      intro i h1 h2
      have := h i (by omega)
      rwa [tz_some (List.getElem?_eq_getElem h1), tz_some (List.getElem?_eq_getElem h2)] at this)
    obtain ⟨R, hRr⟩ : ∃ R, decide (a = b) = R := ⟨_, rfl⟩
    rw [hRr] at no yes ⊢
    have gno := Lib.hid no
    have gyes := Lib.hid yes
    have gR := Lib.hid hR
    have gR2 := Lib.hid hR2
    have t1 : ((n : Int) != n) = false := by simp
    clear no yes hRr hn hn2 hR hR2
    go_enter Tryd.func44, Tryd.ntmps44
    go_wp2
    go_loopw [5] (fun t wr => ∃ k m : Nat, k ≤ n ∧ t = .int .i64 (k : Int) ∧ Hid (∀ j, j < k → tz a j = tz b j) ∧ wr = w.drewN m) (fun t _ => n - (intOf t).toNat)
    case atStart => exact ⟨0, 0, Nat.zero_le _, rfl, Lib.hid (fun j h1 => by omega), rfl⟩
    case round =>
      obtain ⟨k, m, hk, rfl, h0, rfl⟩ := hrel
      by_cases hlt : k < n
      · obtain ⟨ad, rfl, hab, hc⟩ := gR.out.at_ hlt
        obtain ⟨ad2, rfl, hab2, hc2⟩ := gR2.out.at_ hlt
        obtain ⟨a0, a1⟩ := hc w (Below.refl _ _)
        obtain ⟨b0, b1⟩ := hc2 w (Below.refl _ _)
        have i1 : (0 : Int) ≤ k := by omega
        have i2 : (k : Int) < n := by omega
        obtain ⟨x, hx⟩ : ∃ x, tz a k = x := ⟨_, rfl⟩
        obtain ⟨y, hy⟩ : ∃ y, tz b k = y := ⟨_, rfl⟩
        rw [hx] at a0 a1
        rw [hy] at b0 b1
        by_cases h : x = y
        · subst h
          have h0' : Hid (∀ i, i < k + 1 → tz a i = tz b i) := Lib.hid (fun i h1 => by
            rcases Nat.lt_or_ge i k with h3 | h3
            · exact h0.out i h3
            · rw [show i = k by omega, hx, hy])
          obtain ⟨x1, x2⟩ := x
          simp only at a0 a1 b0 b1
          clear hx hy gR gR2 gno gyes h0 hc hc2
          go_wp2_with fail
          go_quiet (fail)
          go_wp2
          go_roundw
          case rel => exact ⟨k + 1, _, by omega, by go_num, h0', rfl⟩
          case measure => simp [intOf] <;> omega
        · obtain rfl := gno.out k hlt (by rw [hx, hy]; exact h)
          obtain ⟨x1, x2⟩ := x
          obtain ⟨y1, y2⟩ := y
          simp only at a0 a1 b0 b1
          have h12 : ¬ (x1 = y1 ∧ x2 = y2) := fun e => h (by rw [e.1, e.2])
          obtain ⟨q1, hq1⟩ : ∃ q, (x1 == y1) = q := ⟨_, rfl⟩
          obtain ⟨q2, hq2⟩ : ∃ q, (x2 == y2) = q := ⟨_, rfl⟩
          have hqq : (q1 && q2) = false := by
            rw [← hq1, ← hq2]
            simp only [Bool.and_eq_false_iff, beq_eq_false_iff_ne]
            by_cases e : x1 = y1
            · exact .inr (fun e2 => h12 ⟨e, e2⟩)
            · exact .inl e
          clear hx hy gR gR2 gyes h0 gno hc hc2 h h12
          cases q1 <;> cases q2
          case true.true => cases hqq
          all_goals
            clear hqq
            go_wp2_with fail
            go_quiet (fail)
            go_wp2
            go_ret
            refine ⟨rfl, ?_⟩
            simp only [World.drewN_drewN]
            exact ⟨_, rfl⟩
      · obtain rfl : k = n := by omega
        obtain rfl := gyes.out h0.out
        clear gR gR2 gno gyes h0
        go_wp2
        go_ret
        exact ⟨rfl, m, rfl⟩
  · rw [decide_eq_false (show ¬ a = b from fun e => hlen (by rw [← hn, ← hn2, e]))]
    have t1 : ((n : Int) != n2) = true := by simp; omega
    have t2 : (n != n2) = true := by simpa using hlen
    clear hR hR2 hn hn2
    go_enter Tryd.func44, Tryd.ntmps44
    go_wp2
    go_ret
    exact ⟨rfl, 0, rfl⟩
set_option maxHeartbeats 4000000 in
theorem rtags_any (A A2 : Option Addr) (n n2 c c2 B B2 : Nat) (a b : List Nat) (hn : a.length = n) (hn2 : b.length = n2) (hm : n ≤ 100000) (hm2 : n2 ≤ 100000) (w : World) (hR : Reads w B 1 A n (ints .u32 a)) (hR2 : Reads w B2 1 A2 n2 (ints .u32 b)) :
    Calls Tryd.prog 45 #[.slice A n c, .slice A2 n2 c2] w fun en w' => en = .returned (.bool (decide (a = b))) ∧ ∃ m, w' = w.drewN m := by
  by_cases hlen : n = n2
  · subst hlen
    have no : ∀ k, k < n → a.getD k 0 ≠ b.getD k 0 → decide (a = b) = false := fun k _ h => decide_eq_false (fun e => h (by rw [e]))
    have yes : (∀ k, k < n → a.getD k 0 = b.getD k 0) → decide (a = b) = true := fun h => decide_eq_true (by
      apply List.ext_getElem (by omega)
      intro i h1 h2
      have := h i (by omega)
      rw [List.getD_eq_getElem?_getD, List.getD_eq_getElem?_getD, List.getElem?_eq_getElem h1, List.getElem?_eq_getElem h2] at this
      exact this)
    obtain ⟨R, hRr⟩ : ∃ R, decide (a = b) = R := ⟨_, rfl⟩
    rw [hRr] at no yes ⊢
    have gno := Lib.hid no
    have gyes := Lib.hid yes
    have gn := Lib.hid hn
    have gn2 := Lib.hid hn2
    have t1 : ((n : Int) != n) = false := by simp
    clear no yes hRr hn hn2
    go_enter Tryd.func45, Tryd.ntmps45
    go_wp2
    go_loopw [5] (fun t wr => ∃ k m : Nat, k ≤ n ∧ t = .int .i64 (k : Int) ∧ Hid (∀ j, j < k → a.getD j 0 = b.getD j 0) ∧ wr = w.drewN m) (fun t _ => n - (intOf t).toNat)
    case atStart => exact ⟨0, 0, Nat.zero_le _, rfl, Lib.hid (fun j h1 => by omega), rfl⟩
    case round =>
      obtain ⟨k, m, hk, rfl, h0, rfl⟩ := hrel
      by_cases hlt : k < n
      · obtain ⟨ad, rfl, hab, cA⟩ := at_ints gn.out hR hlt
        obtain ⟨ad2, rfl, hab2, cA2⟩ := at_ints gn2.out hR2 hlt
        have i1 : (0 : Int) ≤ k := by omega
        have i2 : (k : Int) < n := by omega
        obtain ⟨x, hx⟩ : ∃ x, a.getD k 0 = x := ⟨_, rfl⟩
        obtain ⟨y, hy⟩ : ∃ y, b.getD k 0 = y := ⟨_, rfl⟩
        rw [hx] at cA
        rw [hy] at cA2
        by_cases h : x = y
        · subst h
          have h0' : Hid (∀ i, i < k + 1 → a.getD i 0 = b.getD i 0) := Lib.hid (fun i h1 => by
            rcases Nat.lt_or_ge i k with h3 | h3
            · exact h0.out i h3
            · rw [show i = k by omega, hx, hy])
          have t2 : ((x : Int) != x) = false := by simp
          clear hx hy hR hR2 gno gyes h0 gn gn2
          go_wp2_with fail
          go_quiet (fail)
          go_wp2
          go_roundw
          case rel => exact ⟨k + 1, _, by omega, by go_num, h0', rfl⟩
          case measure => simp [intOf] <;> omega
        · obtain rfl := gno.out k hlt (by rw [hx, hy]; exact h)
          have t2 : ((x : Int) != y) = true := by simp; omega
          have t4 : (x != y) = true := by simp; omega
          clear hx hy hR hR2 gyes h0 gn gn2 gno
          go_wp2_with fail
          go_quiet (fail)
          go_wp2
          go_ret
          refine ⟨rfl, ?_⟩
          simp only [World.drewN_drewN]
          exact ⟨_, rfl⟩
      · obtain rfl : k = n := by omega
        obtain rfl := gyes.out h0.out
        clear hR hR2 gno gyes h0 gn gn2
        go_wp2
        go_ret
        exact ⟨rfl, m, rfl⟩
  · rw [decide_eq_false (show ¬ a = b from fun e => hlen (by rw [← hn, ← hn2, e]))]
    have t1 : ((n : Int) != n2) = true := by simp; omega
    have t2 : (n != n2) = true := by simpa using hlen
    clear hR hR2 hn hn2
    go_enter Tryd.func45, Tryd.ntmps45
    go_wp2
    go_ret
    exact ⟨rfl, 0, rfl⟩
set_option maxHeartbeats 4000000 in
theorem rleast_any (A : Option Addr) (n c B : Nat) (l : List Nat) (hn : l.length = n) (hm : n ≤ 100000) (w : World) (hR : Reads w B 1 A n (ints .u32 l)) :
    Calls Tryd.prog 71 #[.slice A n c] w fun en w' => ∃ R : Bool, en = .returned (.bool R) ∧ (R = true ↔ (rises l ∧ l.length ≤ 8)) ∧ ∃ m, w' = w.drewN m := by
  have gn := Lib.hid hn
  have gR := Lib.hid hR
  clear hn hR
  go_enter Tryd.func71, Tryd.ntmps71
  go_wp2
  go_loopw [3] (fun t wr => ∃ K m : Nat, 1 ≤ K ∧ K ≤ n + 1 ∧ t = .int .i64 (K : Int) ∧ Hid (∀ j, j + 1 < K → j + 1 < n → l.getD j 0 < l.getD (j + 1) 0) ∧ wr = w.drewN m) (fun t _ => n + 1 - (intOf t).toNat)
  case atStart => exact ⟨1, 0, Nat.le_refl _, by omega, rfl, Lib.hid (fun j h1 => by omega), rfl⟩
  case round =>
    obtain ⟨K, m, hK1, hk, rfl, h0, rfl⟩ := hrel
    by_cases hlt : K < n
    · obtain ⟨k, hkK⟩ : ∃ k, K = k + 1 := ⟨K - 1, by omega⟩
      obtain ⟨ad, rfl, hab, cA⟩ := at_ints gn.out gR.out hlt
      obtain ⟨ad2, e2, hab2, cA2⟩ := at_ints gn.out gR.out (show k < n by omega)
      injection e2 with e2
      subst e2
      have i1 : (0 : Int) ≤ (K : Int) := by omega
      have i2 : (K : Int) < n := by omega
      have i3 : (0 : Int) ≤ k := by omega
      have i4 : (k : Int) < n := by omega
      have w1 : IntKind.i64.wrap ((K : Int) - 1) = k := by rw [show (K : Int) - 1 = k by omega]; exact IntWalk.i64_in _ (by omega)
      obtain ⟨x, hx⟩ : ∃ x, l.getD K 0 = x := ⟨_, rfl⟩
      obtain ⟨y, hy⟩ : ∃ y, l.getD k 0 = y := ⟨_, rfl⟩
      rw [hx] at cA
      rw [hy] at cA2
      by_cases h : x ≤ y
      · have t1 : decide ((x : Int) ≤ y) = true := decide_eq_true (by omega)
        have t2 : decide (x ≤ y) = true := decide_eq_true h
        have gno : Hid (¬ rises l) := Lib.hid (fun hr => by have := hr k (by rw [gn.out]; omega); rw [← hkK, hx, hy] at this; omega)
        have gk := Lib.hid hkK
        clear hx hy h0 gR hkK hK1
        go_wp2_with fail
        go_quiet (fail)
        go_wp2
        go_ret
        refine ⟨false, rfl, ⟨(fun h => by cases h), fun h => absurd h.1 gno.out⟩, ?_⟩
        simp only [World.drewN_drewN]
        exact ⟨_, rfl⟩
      · have t1 : decide ((x : Int) ≤ y) = false := decide_eq_false (by omega)
        have t2 : decide (x ≤ y) = false := decide_eq_false h
        have h0' : Hid (∀ j, j + 1 < K + 1 → j + 1 < n → l.getD j 0 < l.getD (j + 1) 0) := Lib.hid (fun i h1 h2 => by
          rcases Nat.lt_or_ge i k with h3 | h3
          · exact h0.out i (by omega) h2
          · rw [show i = k by omega, ← hkK, hx, hy]; omega)
        have gk := Lib.hid hkK
        clear hx hy h0 h hkK
        go_wp2_with fail
        go_quiet (fail)
        go_wp2
        go_roundw
        case rel => exact ⟨K + 1, _, by omega, by omega, by go_num, h0', rfl⟩
        case measure => simp [intOf] <;> omega
    · have gr : Hid (rises l) := Lib.hid (fun i hi => h0.out i (by have := gn.out; omega) (by have := gn.out; omega))
      obtain ⟨R, hR⟩ : ∃ R, decide (n ≤ 8) = R := ⟨_, rfl⟩
      have hR2 : decide ((n : Int) ≤ 8) = R := by rw [← hR]; simp; omega
      have gRR := Lib.hid hR
      clear h0
      cases R
      all_goals
        go_wp2
        go_ret
        refine ⟨_, rfl, ?_, m, rfl⟩
        have := gRR.out
        have h2 := gn.out
        have h3 := gr.out
        simp at this
        simp [h3, h2]
        try omega
end Go.Proofs.YtdmjdpaehnhdoaaDoor
