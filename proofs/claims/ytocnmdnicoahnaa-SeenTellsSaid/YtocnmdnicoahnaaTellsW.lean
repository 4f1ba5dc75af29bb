/- Seen: the walk of the law SeenTells. -/
import Derived.Test.YtocnmdnicoahnaaH
import Derived.Test.YtocnmdnicoahnaaR
import Derived.Lib.Hide
namespace Go.Proofs.Ytocnmdnicoahnaa.SeenTells
open Go.ChangeShapes Go.WideShapes Go.ChangeAt Go.RowKit
set_option linter.unusedSimpArgs false
set_option linter.unusedVariables false
theorem row_below {b m : Nat} {w w' : World} {A : Option Addr} (h : Row b w A m) (hb : Below w.heap.size w w') : Row b w' A m := by
  obtain ⟨g, cur, e, h1, h2, h3⟩ := h
  exact ⟨g, cur, e, h1, h2.below hb h2.lt, h3⟩
theorem below_of {A : Option Addr} {n c : Nat} {l : List Int} {t : Int} (hn : l.length = n) (h : askE l t = 0) : ∃ b, IsBelow l t b := by
  obtain ⟨h0, _, _⟩ := ask_zero h
  obtain ⟨hm, hg⟩ := chk_zero h0
  -- the first place whose number is not less
  have : ∀ k, k ≤ l.length → (∀ i, i < k → l.getD i 0 < t) ∨ ∃ b, IsBelow l t b := by
    intro k
    induction k with
    | zero => exact fun _ => .inl fun i hi => by omega
    | succ k ih =>
      intro hk
      rcases ih (by omega) with h1 | h1
      · by_cases h2 : l.getD k 0 < t
        · exact .inl fun i hi => by
            rcases Nat.lt_or_ge i k with h3 | h3
            · exact h1 i h3
            · obtain rfl : i = k := by omega
              exact h2
        · exact .inr ⟨k, by omega, h1, fun i h3 h4 => by have := good_gap hg h3 h4; omega⟩
      · exact .inr h1
  rcases this l.length (Nat.le_refl _) with h1 | h1
  · exact ⟨l.length, Nat.le_refl _, h1, fun i h2 h3 => by omega⟩
  · exact h1
theorem first_of {l : List Int} (h : chkL l = 0) : ∃ b, IsFirst l b := by
  obtain ⟨hm, hg⟩ := chk_zero h
  have : ∀ k, k ≤ l.length → (∀ i, i < k → l.getD i 0 = i) ∨ ∃ b, IsFirst l b := by
    intro k
    induction k with
    | zero => exact fun _ => .inl fun i hi => by omega
    | succ k ih =>
      intro hk
      rcases ih (by omega) with h1 | h1
      · by_cases h2 : l.getD k 0 = k
        · exact .inl fun i hi => by
            rcases Nat.lt_or_ge i k with h3 | h3
            · exact h1 i h3
            · obtain rfl : i = k := by omega
              exact h2
        · exact .inr ⟨k, by omega, h1, fun h4 => by have := good_ge hg h4; omega⟩
      · exact .inr h1
  rcases this l.length (Nat.le_refl _) with h1 | h1
  · exact ⟨l.length, Nat.le_refl _, h1, fun h2 => by omega⟩
  · exact h1
theorem first_one {l : List Int} {a b : Nat} (ha : IsFirst l a) (hb : IsFirst l b) : a = b := by
  rcases Nat.lt_trichotomy a b with h | h | h
  · have h1 := hb.2.1 a h
    have h2 := ha.2.2 (by have := hb.1; omega)
    omega
  · exact h
  · have h1 := ha.2.1 b h
    have h2 := hb.2.2 (by have := ha.1; omega)
    omega
theorem below_yes1 (A : Option Addr) (n c : Nat) (l : List Int) (hn : l.length = n) (t : Int) (h : askE l t = 0) (b : Nat) (hb : IsBelow l t b) (w : World) (hR : Reads w w.heap.size 1 A n (ints l)) :
    Calls Try.prog 16 #[.slice A n c, .int .i64 t] w fun en w' => en = .returned (.tuple #[.int .i64 (b : Int), .int .i64 0]) ∧ Below w.heap.size w w' := by
  refine (below_yes A n c l hn t h w hR).mono ?_
  rintro en w' ⟨k, hk, rfl, hB⟩
  rw [below_one hb hk]
  exact ⟨rfl, hB⟩
theorem first_yes1 (A : Option Addr) (n c : Nat) (l : List Int) (hn : l.length = n) (h : chkL l = 0) (b : Nat) (hb : IsFirst l b) (w : World) (hR : Reads w w.heap.size 1 A n (ints l)) :
    Calls Try.prog 10 #[.slice A n c] w fun en w' => en = .returned (.tuple #[.int .i64 (b : Int), .int .i64 0]) ∧ Below w.heap.size w w' := by
  refine (first_yes A n c l hn h w hR).mono ?_
  rintro en w' ⟨k, hk, rfl, hB⟩
  rw [first_one hb hk]
  exact ⟨rfl, hB⟩
theorem put_row1 (A : Option Addr) (n c : Nat) (l : List Int) (hn : l.length = n) (t : Int) (h : askE l t = 0) (hin : t ∉ l) (hf : n < 4096) (b : Nat) (hb : IsBelow l t b) (w : World) (hR : Reads w w.heap.size 1 A n (ints l)) :
    Calls Try.prog 12 #[.slice A n c, .int .i64 t] w fun en w' => ∃ A' c', en = .returned (.tuple #[.slice A' (n + 1) c', .int .i64 0]) ∧ Reads w' w'.heap.size 1 A' (n + 1) (ints (ins l b t)) ∧ Below w.heap.size w w' ∧ Row w.heap.size w' A' (n + 1) := by
  refine (put_row A n c l hn t h hin hf w hR).mono ?_
  rintro en w' ⟨k, A', c', hk, rfl, _, hR', hB, hw⟩
  rw [below_one hb hk]
  exact ⟨A', c', rfl, hR', hB, hw⟩
set_option maxHeartbeats 16000000 in
set_option maxRecDepth 100000 in
theorem great (A : Option Addr) (n c : Nat) (l : List Int) (hn : l.length = n) (t : Int) (hgr : ∀ w, Calls Try.prog 9 #[.slice A n c] w fun en w' => en = .returned (.bool true) ∧ w = w') (w : World) (hR : Reads w w.heap.size 1 A n (ints l)) :
    Calls Try.prog 5 #[.slice A n c, .int .i64 t] w fun en w' => en = .returned (.bool true) ∧ Below w.heap.size w w' := by
  go_enter Try.func5, Try.ntmps5
  go_wp2_with fail
  refine (hgr _).mono ?_
  rintro en w2 ⟨rfl, rfl⟩
  clear hR hgr
  go_wp2
  go_ret
  exact ⟨rfl, Below.refl _ _⟩
set_option maxHeartbeats 16000000 in
set_option maxRecDepth 100000 in
theorem bad (A : Option Addr) (n c : Nat) (l : List Int) (hn : l.length = n) (t : Int) (hgr : ∀ w, Calls Try.prog 9 #[.slice A n c] w fun en w' => en = .returned (.bool false) ∧ w = w') (hm5 : n ≤ 4100) (e : Int) (hc : chkL l = e) (h0 : (e != 0) = true) (h1 : (e == 0) = false) (w : World) (hR : Reads w w.heap.size 1 A n (ints l)) :
    Calls Try.prog 5 #[.slice A n c, .int .i64 t] w fun en w' => en = .returned (.bool true) ∧ Below w.heap.size w w' := by
  have h : askE l t = e := by
    unfold askE
    rw [if_neg (by rw [hc]; simpa using h0), hc]
  obtain ⟨i0, hi0, hz0, hz1, hz2⟩ := info_parts info3r
  have hne := ints_one l
  go_enter Try.func5, Try.ntmps5
  go_wp2_with fail
  refine (hgr _).mono ?_
  rintro en w2 ⟨rfl, rfl⟩
  go_wp2_with (at_builtin; refine wpList_append_any _ rfl (.tmp 26) (.tmp 27) _ rfl w.heap.size 3 i0 _ 1 8 Try.underlying22 hi0 hz0 hz1 hz2 rfl (by omega) (.slice (some ⟨w.heap.size, 0, none⟩) 0 0) 0 [] rfl (owns_new w w.heap.size (Nat.le_refl _) [] 3 0 rfl (by unfold maxLen; omega)) w.heap.size A n c (ints l) rfl (hR.alloc (Nat.le_refl _) _) hne (by unfold maxLen; omega) (by omega) (by simp) ?_; intro v0 w0 ho0 hg0 _; have hB0 : Below w.heap.size w w0 := ((Below.refl _ w).alloc (Nat.le_refl _) _).grown hg0 (by simp) (by intro k hk; simp [Value.ownBlock] at hk; omega); simp only [Nat.zero_add, List.nil_append] at ho0; obtain ⟨Ao, co, rfl, _, hO0⟩ := own_slice ho0; have hL0 := (hR.below hB0).more hB0.size; clear ho0 hg0 hne)
  go_wp2_with fail
  refine (has_no Ao n co l hn t e h h0 h1 _ hO0).mono ?_
  rintro en w1 ⟨rfl, hb1⟩
  have hO1 := (hO0.below hb1).more hb1.size
  have hL1 := (hL0.below hb1).more hb1.size
  have hB1 := hB0.trans (hb1.mono hB0.size)
  clear hb1 hO0 hL0 hB0
  go_wp2_with fail
  refine (rhas_no A n c _ l hn t e h h0 _ hL1).mono ?_
  rintro en w2 ⟨rfl, m2, rfl⟩
  have hb2 : Below w1.heap.size w1 (w1.drewN m2) := below_drewN (Below.refl _ _) _
  obtain ⟨w2, hw2⟩ : ∃ w2, w1.drewN m2 = w2 := ⟨_, rfl⟩
  rw [hw2] at hb2 ⊢
  clear hw2
  have hO2 := (hO1.below hb2).more hb2.size
  have hL2 := (hL1.below hb2).more hb2.size
  have hB2 := hB1.trans (hb2.mono hB1.size)
  clear hb2 hO1 hL1 hB1
  go_wp2_with fail
  refine (put_err Ao n co l hn t e h h0 _ hO2).mono ?_
  rintro en w3 ⟨rfl, hb3⟩
  have hO3 := (hO2.below hb3).more hb3.size
  have hL3 := (hL2.below hb3).more hb3.size
  have hB3 := hB2.trans (hb3.mono hB2.size)
  clear hb3 hO2 hL2 hB2
  go_wp2_with fail
  refine (rput_no A n c _ l hn t e h h0 _ hL3).mono ?_
  rintro en w4 ⟨rfl, m4, rfl⟩
  have hb4 : Below w3.heap.size w3 (w3.drewN m4) := below_drewN (Below.refl _ _) _
  obtain ⟨w4, hw4⟩ : ∃ w4, w3.drewN m4 = w4 := ⟨_, rfl⟩
  rw [hw4] at hb4 ⊢
  clear hw4
  have hO4 := (hO3.below hb4).more hb4.size
  have hL4 := (hL3.below hb4).more hb4.size
  have hB4 := hB3.trans (hb4.mono hB3.size)
  clear hb4 hO3 hL3 hB3
  go_wp2_with fail
  refine (below_no Ao n co l hn t e h h0 _ hO4).mono ?_
  rintro en w5 ⟨rfl, hb5⟩
  have hO5 := (hO4.below hb5).more hb5.size
  have hL5 := (hL4.below hb5).more hb5.size
  have hB5 := hB4.trans (hb5.mono hB4.size)
  clear hb5 hO4 hL4 hB4
  go_wp2_with fail
  refine (rbelow_no A n c _ l hn t e h h0 _ hL5).mono ?_
  rintro en w6 ⟨rfl, m6, rfl⟩
  have hb6 : Below w5.heap.size w5 (w5.drewN m6) := below_drewN (Below.refl _ _) _
  obtain ⟨w6, hw6⟩ : ∃ w6, w5.drewN m6 = w6 := ⟨_, rfl⟩
  rw [hw6] at hb6 ⊢
  clear hw6
  have hO6 := (hO5.below hb6).more hb6.size
  have hL6 := (hL5.below hb6).more hb6.size
  have hB6 := hB5.trans (hb6.mono hB5.size)
  clear hb6 hO5 hL5 hB5
  go_wp2_with fail
  refine (first_no Ao n co l hn e hc h0 _ hO6).mono ?_
  rintro en w7 ⟨rfl, hb7⟩
  have hO7 := (hO6.below hb7).more hb7.size
  have hL7 := (hL6.below hb7).more hb7.size
  have hB7 := hB6.trans (hb7.mono hB6.size)
  clear hb7 hO6 hL6 hB6
  go_wp2_with fail
  refine (rfirst_no A n c _ l hn e hc h0 _ hL7).mono ?_
  rintro en w8 ⟨rfl, m8, rfl⟩
  have hb8 : Below w7.heap.size w7 (w7.drewN m8) := below_drewN (Below.refl _ _) _
  obtain ⟨w8, hw8⟩ : ∃ w8, w7.drewN m8 = w8 := ⟨_, rfl⟩
  rw [hw8] at hb8 ⊢
  clear hw8
  have hO8 := (hO7.below hb8).more hb8.size
  have hL8 := (hL7.below hb8).more hb8.size
  have hB8 := hB7.trans (hb8.mono hB7.size)
  clear hb8 hO7 hL7 hB7
  have hs0 := fun w => same_yes none none 0 0 0 w.heap.size w.heap.size [] rfl (by omega) w Reads.none_ Reads.none_
  clear hR hgr h h0 h1 hc
  go_wp2_with fail
  refine (hs0 _).mono ?_
  rintro en w9 ⟨rfl, m9, rfl⟩
  have hO9 := hO8.drewN m9
  have hL9 := hL8.drewN m9
  have hB9 := below_drewN hB8 m9
  obtain ⟨w9, hw9⟩ : ∃ w9, w8.drewN m9 = w9 := ⟨_, rfl⟩
  rw [hw9] at hO9 hL9 hB9 ⊢
  have hO9 := hO9.more (show w8.heap.size ≤ w9.heap.size by rw [← hw9]; exact Nat.le_refl _)
  have hL9 := hL9.more (show w8.heap.size ≤ w9.heap.size by rw [← hw9]; exact Nat.le_refl _)
  clear hw9 hs0 hO8 hL8 hB8
  go_wp2
  go_loopw [23] (fun i wr => i = .int .i64 0 ∧ w9 = wr) (fun _ _ => 0)
  case atStart => exact ⟨rfl, rfl⟩
  case round =>
    obtain ⟨rfl, rfl⟩ := hrel
    have hck := fun w h => check_any Ao n co w9.heap.size l hn w h
    have hrk := fun w h => rcheck_any A n c w9.heap.size l hn w h
    have hsm := fun w h h' => same_yes Ao A n co c w9.heap.size w9.heap.size l hn (by omega) w h h'
    have HN := Lib.hid hn
    clear hn
    go_wp2_with fail
    refine (hck _ hO9).mono ?_
    rintro en wa ⟨rfl, rfl⟩
    go_wp2_with fail
    refine (hrk _ hL9).mono ?_
    rintro en wb ⟨rfl, mb, rfl⟩
    go_wp2_with fail
    refine (hsm _ (hO9.drewN _) (hL9.drewN _)).mono ?_
    rintro en wc ⟨rfl, mc, rfl⟩
    clear hO9 hL9 hck hrk hsm
    go_wp2
    go_ret
    exact ⟨rfl, below_drewN hB9 _⟩
set_option maxHeartbeats 16000000 in
set_option maxRecDepth 100000 in
theorem arg (A : Option Addr) (n c : Nat) (l : List Int) (hn : l.length = n) (t : Int) (hgr : ∀ w, Calls Try.prog 9 #[.slice A n c] w fun en w' => en = .returned (.bool false) ∧ w = w') (hm5 : n ≤ 4100) (e : Int) (h : askE l t = e) (hc : chkL l = 0) (h0 : (e != 0) = true) (h1 : (e == 0) = false) (f : Nat) (hf : IsFirst l f) (w : World) (hR : Reads w w.heap.size 1 A n (ints l)) :
    Calls Try.prog 5 #[.slice A n c, .int .i64 t] w fun en w' => en = .returned (.bool true) ∧ Below w.heap.size w w' := by
  obtain ⟨i0, hi0, hz0, hz1, hz2⟩ := info_parts info3r
  have hne := ints_one l
  go_enter Try.func5, Try.ntmps5
  go_wp2_with fail
  refine (hgr _).mono ?_
  rintro en w2 ⟨rfl, rfl⟩
  go_wp2_with (at_builtin; refine wpList_append_any _ rfl (.tmp 26) (.tmp 27) _ rfl w.heap.size 3 i0 _ 1 8 Try.underlying22 hi0 hz0 hz1 hz2 rfl (by omega) (.slice (some ⟨w.heap.size, 0, none⟩) 0 0) 0 [] rfl (owns_new w w.heap.size (Nat.le_refl _) [] 3 0 rfl (by unfold maxLen; omega)) w.heap.size A n c (ints l) rfl (hR.alloc (Nat.le_refl _) _) hne (by unfold maxLen; omega) (by omega) (by simp) ?_; intro v0 w0 ho0 hg0 _; have hB0 : Below w.heap.size w w0 := ((Below.refl _ w).alloc (Nat.le_refl _) _).grown hg0 (by simp) (by intro k hk; simp [Value.ownBlock] at hk; omega); simp only [Nat.zero_add, List.nil_append] at ho0; obtain ⟨Ao, co, rfl, _, hO0⟩ := own_slice ho0; have hL0 := (hR.below hB0).more hB0.size; clear ho0 hg0 hne)
  go_wp2_with fail
  refine (has_no Ao n co l hn t e h h0 h1 _ hO0).mono ?_
  rintro en w1 ⟨rfl, hb1⟩
  have hO1 := (hO0.below hb1).more hb1.size
  have hL1 := (hL0.below hb1).more hb1.size
  have hB1 := hB0.trans (hb1.mono hB0.size)
  clear hb1 hO0 hL0 hB0
  go_wp2_with fail
  refine (rhas_no A n c _ l hn t e h h0 _ hL1).mono ?_
  rintro en w2 ⟨rfl, m2, rfl⟩
  have hb2 : Below w1.heap.size w1 (w1.drewN m2) := below_drewN (Below.refl _ _) _
  obtain ⟨w2, hw2⟩ : ∃ w2, w1.drewN m2 = w2 := ⟨_, rfl⟩
  rw [hw2] at hb2 ⊢
  clear hw2
  have hO2 := (hO1.below hb2).more hb2.size
  have hL2 := (hL1.below hb2).more hb2.size
  have hB2 := hB1.trans (hb2.mono hB1.size)
  clear hb2 hO1 hL1 hB1
  go_wp2_with fail
  refine (put_err Ao n co l hn t e h h0 _ hO2).mono ?_
  rintro en w3 ⟨rfl, hb3⟩
  have hO3 := (hO2.below hb3).more hb3.size
  have hL3 := (hL2.below hb3).more hb3.size
  have hB3 := hB2.trans (hb3.mono hB2.size)
  clear hb3 hO2 hL2 hB2
  go_wp2_with fail
  refine (rput_no A n c _ l hn t e h h0 _ hL3).mono ?_
  rintro en w4 ⟨rfl, m4, rfl⟩
  have hb4 : Below w3.heap.size w3 (w3.drewN m4) := below_drewN (Below.refl _ _) _
  obtain ⟨w4, hw4⟩ : ∃ w4, w3.drewN m4 = w4 := ⟨_, rfl⟩
  rw [hw4] at hb4 ⊢
  clear hw4
  have hO4 := (hO3.below hb4).more hb4.size
  have hL4 := (hL3.below hb4).more hb4.size
  have hB4 := hB3.trans (hb4.mono hB3.size)
  clear hb4 hO3 hL3 hB3
  go_wp2_with fail
  refine (below_no Ao n co l hn t e h h0 _ hO4).mono ?_
  rintro en w5 ⟨rfl, hb5⟩
  have hO5 := (hO4.below hb5).more hb5.size
  have hL5 := (hL4.below hb5).more hb5.size
  have hB5 := hB4.trans (hb5.mono hB4.size)
  clear hb5 hO4 hL4 hB4
  go_wp2_with fail
  refine (rbelow_no A n c _ l hn t e h h0 _ hL5).mono ?_
  rintro en w6 ⟨rfl, m6, rfl⟩
  have hb6 : Below w5.heap.size w5 (w5.drewN m6) := below_drewN (Below.refl _ _) _
  obtain ⟨w6, hw6⟩ : ∃ w6, w5.drewN m6 = w6 := ⟨_, rfl⟩
  rw [hw6] at hb6 ⊢
  clear hw6
  have hO6 := (hO5.below hb6).more hb6.size
  have hL6 := (hL5.below hb6).more hb6.size
  have hB6 := hB5.trans (hb6.mono hB5.size)
  clear hb6 hO5 hL5 hB5
  go_wp2_with fail
  refine (first_yes1 Ao n co l hn hc f hf _ hO6).mono ?_
  rintro en w7 ⟨rfl, hb7⟩
  have hO7 := (hO6.below hb7).more hb7.size
  have hL7 := (hL6.below hb7).more hb7.size
  have hB7 := hB6.trans (hb7.mono hB6.size)
  clear hb7 hO6 hL6 hB6
  go_wp2_with fail
  refine (rfirst_yes A n c l hn hc f hf _ hL7).mono ?_
  rintro en w8 ⟨rfl, m8, rfl⟩
  have hb8 : Below w7.heap.size w7 (w7.drewN m8) := below_drewN (Below.refl _ _) _
  obtain ⟨w8, hw8⟩ : ∃ w8, w7.drewN m8 = w8 := ⟨_, rfl⟩
  rw [hw8] at hb8 ⊢
  clear hw8
  have hO8 := (hO7.below hb8).more hb8.size
  have hL8 := (hL7.below hb8).more hb8.size
  have hB8 := hB7.trans (hb8.mono hB7.size)
  clear hb8 hO7 hL7 hB7
  have hs0 := fun w => same_yes none none 0 0 0 w.heap.size w.heap.size [] rfl (by omega) w Reads.none_ Reads.none_
  clear hR hgr h h0 h1 hc hf
  go_wp2_with fail
  refine (hs0 _).mono ?_
  rintro en w9 ⟨rfl, m9, rfl⟩
  have hO9 := hO8.drewN m9
  have hL9 := hL8.drewN m9
  have hB9 := below_drewN hB8 m9
  obtain ⟨w9, hw9⟩ : ∃ w9, w8.drewN m9 = w9 := ⟨_, rfl⟩
  rw [hw9] at hO9 hL9 hB9 ⊢
  have hO9 := hO9.more (show w8.heap.size ≤ w9.heap.size by rw [← hw9]; exact Nat.le_refl _)
  have hL9 := hL9.more (show w8.heap.size ≤ w9.heap.size by rw [← hw9]; exact Nat.le_refl _)
  clear hw9 hs0 hO8 hL8 hB8
  go_wp2
  go_loopw [23] (fun i wr => i = .int .i64 0 ∧ w9 = wr) (fun _ _ => 0)
  case atStart => exact ⟨rfl, rfl⟩
  case round =>
    obtain ⟨rfl, rfl⟩ := hrel
    have hck := fun w h => check_any Ao n co w9.heap.size l hn w h
    have hrk := fun w h => rcheck_any A n c w9.heap.size l hn w h
    have hsm := fun w h h' => same_yes Ao A n co c w9.heap.size w9.heap.size l hn (by omega) w h h'
    have HN := Lib.hid hn
    clear hn
    go_wp2_with fail
    refine (hck _ hO9).mono ?_
    rintro en wa ⟨rfl, rfl⟩
    go_wp2_with fail
    refine (hrk _ hL9).mono ?_
    rintro en wb ⟨rfl, mb, rfl⟩
    go_wp2_with fail
    refine (hsm _ (hO9.drewN _) (hL9.drewN _)).mono ?_
    rintro en wc ⟨rfl, mc, rfl⟩
    clear hO9 hL9 hck hrk hsm
    go_wp2
    go_ret
    exact ⟨rfl, below_drewN hB9 _⟩
set_option maxHeartbeats 16000000 in
set_option maxRecDepth 100000 in
theorem again (A : Option Addr) (n c : Nat) (l : List Int) (hn : l.length = n) (t : Int) (hgr : ∀ w, Calls Try.prog 9 #[.slice A n c] w fun en w' => en = .returned (.bool false) ∧ w = w') (hm5 : n ≤ 4100) (h : askE l t = 0) (hc : chkL l = 0) (b : Nat) (hb : IsBelow l t b) (f : Nat) (hf : IsFirst l f) (hin : t ∈ l) (w : World) (hR : Reads w w.heap.size 1 A n (ints l)) :
    Calls Try.prog 5 #[.slice A n c, .int .i64 t] w fun en w' => en = .returned (.bool true) ∧ Below w.heap.size w w' := by
  obtain ⟨i0, hi0, hz0, hz1, hz2⟩ := info_parts info3r
  have hne := ints_one l
  go_enter Try.func5, Try.ntmps5
  go_wp2_with fail
  refine (hgr _).mono ?_
  rintro en w2 ⟨rfl, rfl⟩
  go_wp2_with (at_builtin; refine wpList_append_any _ rfl (.tmp 26) (.tmp 27) _ rfl w.heap.size 3 i0 _ 1 8 Try.underlying22 hi0 hz0 hz1 hz2 rfl (by omega) (.slice (some ⟨w.heap.size, 0, none⟩) 0 0) 0 [] rfl (owns_new w w.heap.size (Nat.le_refl _) [] 3 0 rfl (by unfold maxLen; omega)) w.heap.size A n c (ints l) rfl (hR.alloc (Nat.le_refl _) _) hne (by unfold maxLen; omega) (by omega) (by simp) ?_; intro v0 w0 ho0 hg0 _; have hB0 : Below w.heap.size w w0 := ((Below.refl _ w).alloc (Nat.le_refl _) _).grown hg0 (by simp) (by intro k hk; simp [Value.ownBlock] at hk; omega); simp only [Nat.zero_add, List.nil_append] at ho0; obtain ⟨Ao, co, rfl, _, hO0⟩ := own_slice ho0; have hL0 := (hR.below hB0).more hB0.size; clear ho0 hg0 hne)
  go_wp2_with fail
  refine (has_yes Ao n co l hn t h _ hO0).mono ?_
  rintro en w1 ⟨rfl, hb1⟩
  have hO1 := (hO0.below hb1).more hb1.size
  have hL1 := (hL0.below hb1).more hb1.size
  have hB1 := hB0.trans (hb1.mono hB0.size)
  clear hb1 hO0 hL0 hB0
  go_wp2_with fail
  refine (rhas_yes A n c l hn t h _ hL1).mono ?_
  rintro en w2 ⟨rfl, m2, rfl⟩
  have hb2 : Below w1.heap.size w1 (w1.drewN m2) := below_drewN (Below.refl _ _) _
  obtain ⟨w2, hw2⟩ : ∃ w2, w1.drewN m2 = w2 := ⟨_, rfl⟩
  rw [hw2] at hb2 ⊢
  clear hw2
  have hO2 := (hO1.below hb2).more hb2.size
  have hL2 := (hL1.below hb2).more hb2.size
  have hB2 := hB1.trans (hb2.mono hB1.size)
  clear hb2 hO1 hL1 hB1
  go_wp2_with fail
  refine (put_again Ao n co l hn t h hin _ hO2).mono ?_
  rintro en w3 ⟨rfl, hb3⟩
  have hO3 := (hO2.below hb3).more hb3.size
  have hL3 := (hL2.below hb3).more hb3.size
  have hB3 := hB2.trans (hb3.mono hB2.size)
  clear hb3 hO2 hL2 hB2
  go_wp2_with fail
  refine (rput_again A n c l hn t h hin _ hL3).mono ?_
  rintro en w4 ⟨rfl, m4, rfl⟩
  have hb4 : Below w3.heap.size w3 (w3.drewN m4) := below_drewN (Below.refl _ _) _
  obtain ⟨w4, hw4⟩ : ∃ w4, w3.drewN m4 = w4 := ⟨_, rfl⟩
  rw [hw4] at hb4 ⊢
  clear hw4
  have hO4 := (hO3.below hb4).more hb4.size
  have hL4 := (hL3.below hb4).more hb4.size
  have hB4 := hB3.trans (hb4.mono hB3.size)
  clear hb4 hO3 hL3 hB3
  go_wp2_with fail
  refine (below_yes1 Ao n co l hn t h b hb _ hO4).mono ?_
  rintro en w5 ⟨rfl, hb5⟩
  have hO5 := (hO4.below hb5).more hb5.size
  have hL5 := (hL4.below hb5).more hb5.size
  have hB5 := hB4.trans (hb5.mono hB4.size)
  clear hb5 hO4 hL4 hB4
  go_wp2_with fail
  refine (rbelow_yes A n c l hn t h b hb _ hL5).mono ?_
  rintro en w6 ⟨rfl, m6, rfl⟩
  have hb6 : Below w5.heap.size w5 (w5.drewN m6) := below_drewN (Below.refl _ _) _
  obtain ⟨w6, hw6⟩ : ∃ w6, w5.drewN m6 = w6 := ⟨_, rfl⟩
  rw [hw6] at hb6 ⊢
  clear hw6
  have hO6 := (hO5.below hb6).more hb6.size
  have hL6 := (hL5.below hb6).more hb6.size
  have hB6 := hB5.trans (hb6.mono hB5.size)
  clear hb6 hO5 hL5 hB5
  go_wp2_with fail
  refine (first_yes1 Ao n co l hn hc f hf _ hO6).mono ?_
  rintro en w7 ⟨rfl, hb7⟩
  have hO7 := (hO6.below hb7).more hb7.size
  have hL7 := (hL6.below hb7).more hb7.size
  have hB7 := hB6.trans (hb7.mono hB6.size)
  clear hb7 hO6 hL6 hB6
  go_wp2_with fail
  refine (rfirst_yes A n c l hn hc f hf _ hL7).mono ?_
  rintro en w8 ⟨rfl, m8, rfl⟩
  have hb8 : Below w7.heap.size w7 (w7.drewN m8) := below_drewN (Below.refl _ _) _
  obtain ⟨w8, hw8⟩ : ∃ w8, w7.drewN m8 = w8 := ⟨_, rfl⟩
  rw [hw8] at hb8 ⊢
  clear hw8
  have hO8 := (hO7.below hb8).more hb8.size
  have hL8 := (hL7.below hb8).more hb8.size
  have hB8 := hB7.trans (hb8.mono hB7.size)
  clear hb8 hO7 hL7 hB7
  have hs0 := fun w => same_yes none none 0 0 0 w.heap.size w.heap.size [] rfl (by omega) w Reads.none_ Reads.none_
  clear hR hgr h hc hb hf hin
  go_wp2_with fail
  refine (hs0 _).mono ?_
  rintro en w9 ⟨rfl, m9, rfl⟩
  have hO9 := hO8.drewN m9
  have hL9 := hL8.drewN m9
  have hB9 := below_drewN hB8 m9
  obtain ⟨w9, hw9⟩ : ∃ w9, w8.drewN m9 = w9 := ⟨_, rfl⟩
  rw [hw9] at hO9 hL9 hB9 ⊢
  have hO9 := hO9.more (show w8.heap.size ≤ w9.heap.size by rw [← hw9]; exact Nat.le_refl _)
  have hL9 := hL9.more (show w8.heap.size ≤ w9.heap.size by rw [← hw9]; exact Nat.le_refl _)
  clear hw9 hs0 hO8 hL8 hB8
  go_wp2
  go_loopw [23] (fun i wr => i = .int .i64 0 ∧ w9 = wr) (fun _ _ => 0)
  case atStart => exact ⟨rfl, rfl⟩
  case round =>
    obtain ⟨rfl, rfl⟩ := hrel
    have hck := fun w h => check_any Ao n co w9.heap.size l hn w h
    have hrk := fun w h => rcheck_any A n c w9.heap.size l hn w h
    have hsm := fun w h h' => same_yes Ao A n co c w9.heap.size w9.heap.size l hn (by omega) w h h'
    have HN := Lib.hid hn
    clear hn
    go_wp2_with fail
    refine (hck _ hO9).mono ?_
    rintro en wa ⟨rfl, rfl⟩
    go_wp2_with fail
    refine (hrk _ hL9).mono ?_
    rintro en wb ⟨rfl, mb, rfl⟩
    go_wp2_with fail
    refine (hsm _ (hO9.drewN _) (hL9.drewN _)).mono ?_
    rintro en wc ⟨rfl, mc, rfl⟩
    clear hO9 hL9 hck hrk hsm
    go_wp2
    go_ret
    exact ⟨rfl, below_drewN hB9 _⟩
set_option maxHeartbeats 16000000 in
set_option maxRecDepth 100000 in
theorem full (A : Option Addr) (n c : Nat) (l : List Int) (hn : l.length = n) (t : Int) (hgr : ∀ w, Calls Try.prog 9 #[.slice A n c] w fun en w' => en = .returned (.bool false) ∧ w = w') (hm5 : n ≤ 4100) (h : askE l t = 0) (hc : chkL l = 0) (b : Nat) (hb : IsBelow l t b) (f : Nat) (hf : IsFirst l f) (hin : t ∉ l) (hff : n = 4096) (w : World) (hR : Reads w w.heap.size 1 A n (ints l)) :
    Calls Try.prog 5 #[.slice A n c, .int .i64 t] w fun en w' => en = .returned (.bool true) ∧ Below w.heap.size w w' := by
  have HF := Lib.hid hff
  clear hff
  obtain ⟨i0, hi0, hz0, hz1, hz2⟩ := info_parts info3r
  have hne := ints_one l
  go_enter Try.func5, Try.ntmps5
  go_wp2_with fail
  refine (hgr _).mono ?_
  rintro en w2 ⟨rfl, rfl⟩
  go_wp2_with (at_builtin; refine wpList_append_any _ rfl (.tmp 26) (.tmp 27) _ rfl w.heap.size 3 i0 _ 1 8 Try.underlying22 hi0 hz0 hz1 hz2 rfl (by omega) (.slice (some ⟨w.heap.size, 0, none⟩) 0 0) 0 [] rfl (owns_new w w.heap.size (Nat.le_refl _) [] 3 0 rfl (by unfold maxLen; omega)) w.heap.size A n c (ints l) rfl (hR.alloc (Nat.le_refl _) _) hne (by unfold maxLen; omega) (by omega) (by simp) ?_; intro v0 w0 ho0 hg0 _; have hB0 : Below w.heap.size w w0 := ((Below.refl _ w).alloc (Nat.le_refl _) _).grown hg0 (by simp) (by intro k hk; simp [Value.ownBlock] at hk; omega); simp only [Nat.zero_add, List.nil_append] at ho0; obtain ⟨Ao, co, rfl, _, hO0⟩ := own_slice ho0; have hL0 := (hR.below hB0).more hB0.size; clear ho0 hg0 hne)
  go_wp2_with fail
  refine (has_yes Ao n co l hn t h _ hO0).mono ?_
  rintro en w1 ⟨rfl, hb1⟩
  have hO1 := (hO0.below hb1).more hb1.size
  have hL1 := (hL0.below hb1).more hb1.size
  have hB1 := hB0.trans (hb1.mono hB0.size)
  clear hb1 hO0 hL0 hB0
  go_wp2_with fail
  refine (rhas_yes A n c l hn t h _ hL1).mono ?_
  rintro en w2 ⟨rfl, m2, rfl⟩
  have hb2 : Below w1.heap.size w1 (w1.drewN m2) := below_drewN (Below.refl _ _) _
  obtain ⟨w2, hw2⟩ : ∃ w2, w1.drewN m2 = w2 := ⟨_, rfl⟩
  rw [hw2] at hb2 ⊢
  clear hw2
  have hO2 := (hO1.below hb2).more hb2.size
  have hL2 := (hL1.below hb2).more hb2.size
  have hB2 := hB1.trans (hb2.mono hB1.size)
  clear hb2 hO1 hL1 hB1
  go_wp2_with fail
  refine (put_full Ao n co l hn t h hin HF.out _ hO2).mono ?_
  rintro en w3 ⟨rfl, hb3⟩
  have hO3 := (hO2.below hb3).more hb3.size
  have hL3 := (hL2.below hb3).more hb3.size
  have hB3 := hB2.trans (hb3.mono hB2.size)
  clear hb3 hO2 hL2 hB2
  go_wp2_with fail
  refine (rput_full A n c l hn t h hin HF.out _ hL3).mono ?_
  rintro en w4 ⟨rfl, m4, rfl⟩
  have hb4 : Below w3.heap.size w3 (w3.drewN m4) := below_drewN (Below.refl _ _) _
  obtain ⟨w4, hw4⟩ : ∃ w4, w3.drewN m4 = w4 := ⟨_, rfl⟩
  rw [hw4] at hb4 ⊢
  clear hw4
  have hO4 := (hO3.below hb4).more hb4.size
  have hL4 := (hL3.below hb4).more hb4.size
  have hB4 := hB3.trans (hb4.mono hB3.size)
  clear hb4 hO3 hL3 hB3
  go_wp2_with fail
  refine (below_yes1 Ao n co l hn t h b hb _ hO4).mono ?_
  rintro en w5 ⟨rfl, hb5⟩
  have hO5 := (hO4.below hb5).more hb5.size
  have hL5 := (hL4.below hb5).more hb5.size
  have hB5 := hB4.trans (hb5.mono hB4.size)
  clear hb5 hO4 hL4 hB4
  go_wp2_with fail
  refine (rbelow_yes A n c l hn t h b hb _ hL5).mono ?_
  rintro en w6 ⟨rfl, m6, rfl⟩
  have hb6 : Below w5.heap.size w5 (w5.drewN m6) := below_drewN (Below.refl _ _) _
  obtain ⟨w6, hw6⟩ : ∃ w6, w5.drewN m6 = w6 := ⟨_, rfl⟩
  rw [hw6] at hb6 ⊢
  clear hw6
  have hO6 := (hO5.below hb6).more hb6.size
  have hL6 := (hL5.below hb6).more hb6.size
  have hB6 := hB5.trans (hb6.mono hB5.size)
  clear hb6 hO5 hL5 hB5
  go_wp2_with fail
  refine (first_yes1 Ao n co l hn hc f hf _ hO6).mono ?_
  rintro en w7 ⟨rfl, hb7⟩
  have hO7 := (hO6.below hb7).more hb7.size
  have hL7 := (hL6.below hb7).more hb7.size
  have hB7 := hB6.trans (hb7.mono hB6.size)
  clear hb7 hO6 hL6 hB6
  go_wp2_with fail
  refine (rfirst_yes A n c l hn hc f hf _ hL7).mono ?_
  rintro en w8 ⟨rfl, m8, rfl⟩
  have hb8 : Below w7.heap.size w7 (w7.drewN m8) := below_drewN (Below.refl _ _) _
  obtain ⟨w8, hw8⟩ : ∃ w8, w7.drewN m8 = w8 := ⟨_, rfl⟩
  rw [hw8] at hb8 ⊢
  clear hw8
  have hO8 := (hO7.below hb8).more hb8.size
  have hL8 := (hL7.below hb8).more hb8.size
  have hB8 := hB7.trans (hb8.mono hB7.size)
  clear hb8 hO7 hL7 hB7
  have hs0 := fun w => same_yes none none 0 0 0 w.heap.size w.heap.size [] rfl (by omega) w Reads.none_ Reads.none_
  clear hR hgr h hc hb hf hin HF
  go_wp2_with fail
  refine (hs0 _).mono ?_
  rintro en w9 ⟨rfl, m9, rfl⟩
  have hO9 := hO8.drewN m9
  have hL9 := hL8.drewN m9
  have hB9 := below_drewN hB8 m9
  obtain ⟨w9, hw9⟩ : ∃ w9, w8.drewN m9 = w9 := ⟨_, rfl⟩
  rw [hw9] at hO9 hL9 hB9 ⊢
  have hO9 := hO9.more (show w8.heap.size ≤ w9.heap.size by rw [← hw9]; exact Nat.le_refl _)
  have hL9 := hL9.more (show w8.heap.size ≤ w9.heap.size by rw [← hw9]; exact Nat.le_refl _)
  clear hw9 hs0 hO8 hL8 hB8
  go_wp2
  go_loopw [23] (fun i wr => i = .int .i64 0 ∧ w9 = wr) (fun _ _ => 0)
  case atStart => exact ⟨rfl, rfl⟩
  case round =>
    obtain ⟨rfl, rfl⟩ := hrel
    have hck := fun w h => check_any Ao n co w9.heap.size l hn w h
    have hrk := fun w h => rcheck_any A n c w9.heap.size l hn w h
    have hsm := fun w h h' => same_yes Ao A n co c w9.heap.size w9.heap.size l hn (by omega) w h h'
    have HN := Lib.hid hn
    clear hn
    go_wp2_with fail
    refine (hck _ hO9).mono ?_
    rintro en wa ⟨rfl, rfl⟩
    go_wp2_with fail
    refine (hrk _ hL9).mono ?_
    rintro en wb ⟨rfl, mb, rfl⟩
    go_wp2_with fail
    refine (hsm _ (hO9.drewN _) (hL9.drewN _)).mono ?_
    rintro en wc ⟨rfl, mc, rfl⟩
    clear hO9 hL9 hck hrk hsm
    go_wp2
    go_ret
    exact ⟨rfl, below_drewN hB9 _⟩
set_option maxHeartbeats 16000000 in
set_option maxRecDepth 100000 in
theorem yes (A : Option Addr) (n c : Nat) (l : List Int) (hn : l.length = n) (t : Int) (hgr : ∀ w, Calls Try.prog 9 #[.slice A n c] w fun en w' => en = .returned (.bool false) ∧ w = w') (hm5 : n ≤ 4100) (h : askE l t = 0) (hc : chkL l = 0) (b : Nat) (hb : IsBelow l t b) (f : Nat) (hf : IsFirst l f) (hin : t ∉ l) (hff : n < 4096) (w : World) (hR : Reads w w.heap.size 1 A n (ints l)) :
    Calls Try.prog 5 #[.slice A n c, .int .i64 t] w fun en w' => en = .returned (.bool true) ∧ Below w.heap.size w w' := by
  obtain ⟨i0, hi0, hz0, hz1, hz2⟩ := info_parts info3r
  have hne := ints_one l
  go_enter Try.func5, Try.ntmps5
  go_wp2_with fail
  refine (hgr _).mono ?_
  rintro en w2 ⟨rfl, rfl⟩
  go_wp2_with (at_builtin; refine wpList_append_any _ rfl (.tmp 26) (.tmp 27) _ rfl w.heap.size 3 i0 _ 1 8 Try.underlying22 hi0 hz0 hz1 hz2 rfl (by omega) (.slice (some ⟨w.heap.size, 0, none⟩) 0 0) 0 [] rfl (owns_new w w.heap.size (Nat.le_refl _) [] 3 0 rfl (by unfold maxLen; omega)) w.heap.size A n c (ints l) rfl (hR.alloc (Nat.le_refl _) _) hne (by unfold maxLen; omega) (by omega) (by simp) ?_; intro v0 w0 ho0 hg0 _; have hB0 : Below w.heap.size w w0 := ((Below.refl _ w).alloc (Nat.le_refl _) _).grown hg0 (by simp) (by intro k hk; simp [Value.ownBlock] at hk; omega); simp only [Nat.zero_add, List.nil_append] at ho0; obtain ⟨Ao, co, rfl, _, hO0⟩ := own_slice ho0; have hL0 := (hR.below hB0).more hB0.size; clear ho0 hg0 hne)
  go_wp2_with fail
  refine (has_yes Ao n co l hn t h _ hO0).mono ?_
  rintro en w1 ⟨rfl, hb1⟩
  have hO1 := (hO0.below hb1).more hb1.size
  have hL1 := (hL0.below hb1).more hb1.size
  have hB1 := hB0.trans (hb1.mono hB0.size)
  clear hb1 hO0 hL0 hB0
  go_wp2_with fail
  refine (rhas_yes A n c l hn t h _ hL1).mono ?_
  rintro en w2 ⟨rfl, m2, rfl⟩
  have hb2 : Below w1.heap.size w1 (w1.drewN m2) := below_drewN (Below.refl _ _) _
  obtain ⟨w2, hw2⟩ : ∃ w2, w1.drewN m2 = w2 := ⟨_, rfl⟩
  rw [hw2] at hb2 ⊢
  clear hw2
  have hO2 := (hO1.below hb2).more hb2.size
  have hL2 := (hL1.below hb2).more hb2.size
  have hB2 := hB1.trans (hb2.mono hB1.size)
  clear hb2 hO1 hL1 hB1
  go_wp2_with fail
  refine (put_row1 Ao n co l hn t h hin hff b hb _ hO2).mono ?_
  rintro en w3 ⟨Ap, cp, rfl, hP3, hb3, hW3⟩; have hZ3 := hb3; have hO2z := hO2; have hL2z := hL2; have hsz := hB2.size
  have hO3 := (hO2.below hb3).more hb3.size
  have hL3 := (hL2.below hb3).more hb3.size
  have hB3 := hB2.trans (hb3.mono hB2.size)
  clear hb3 hO2 hL2 hB2
  go_wp2_with fail
  refine (rput_yes A n c l hn t h hin hff b hb _ hL3).mono ?_
  rintro en w4 ⟨Aq, cq, rfl, hQ4, hb4⟩
  have hO4 := (hO3.below hb4).more hb4.size
  have hL4 := (hL3.below hb4).more hb4.size
  have hB4 := hB3.trans (hb4.mono hB3.size)
  have hP4 := (hP3.below hb4).more hb4.size; have hZ4 := (hZ3.trans (hb4.mono hZ3.size)); have hW4 := row_below hW3 hb4; clear hP3 hZ3 hW3
  clear hb4 hO3 hL3 hB3
  go_wp2_with fail
  refine (below_yes1 Ao n co l hn t h b hb _ hO4).mono ?_
  rintro en w5 ⟨rfl, hb5⟩
  have hO5 := (hO4.below hb5).more hb5.size
  have hL5 := (hL4.below hb5).more hb5.size
  have hB5 := hB4.trans (hb5.mono hB4.size)
  have hP5 := (hP4.below hb5).more hb5.size; have hZ5 := (hZ4.trans (hb5.mono hZ4.size)); have hW5 := row_below hW4 hb5; clear hP4 hZ4 hW4
  have hQ5 := (hQ4.below hb5).more hb5.size; clear hQ4
  clear hb5 hO4 hL4 hB4
  go_wp2_with fail
  refine (rbelow_yes A n c l hn t h b hb _ hL5).mono ?_
  rintro en w6 ⟨rfl, m6, rfl⟩
  have hb6 : Below w5.heap.size w5 (w5.drewN m6) := below_drewN (Below.refl _ _) _
  obtain ⟨w6, hw6⟩ : ∃ w6, w5.drewN m6 = w6 := ⟨_, rfl⟩
  rw [hw6] at hb6 ⊢
  clear hw6
  have hO6 := (hO5.below hb6).more hb6.size
  have hL6 := (hL5.below hb6).more hb6.size
  have hB6 := hB5.trans (hb6.mono hB5.size)
  have hP6 := (hP5.below hb6).more hb6.size; have hZ6 := (hZ5.trans (hb6.mono hZ5.size)); have hW6 := row_below hW5 hb6; clear hP5 hZ5 hW5
  have hQ6 := (hQ5.below hb6).more hb6.size; clear hQ5
  clear hb6 hO5 hL5 hB5
  go_wp2_with fail
  refine (first_yes1 Ao n co l hn hc f hf _ hO6).mono ?_
  rintro en w7 ⟨rfl, hb7⟩
  have hO7 := (hO6.below hb7).more hb7.size
  have hL7 := (hL6.below hb7).more hb7.size
  have hB7 := hB6.trans (hb7.mono hB6.size)
  have hP7 := (hP6.below hb7).more hb7.size; have hZ7 := (hZ6.trans (hb7.mono hZ6.size)); have hW7 := row_below hW6 hb7; clear hP6 hZ6 hW6
  have hQ7 := (hQ6.below hb7).more hb7.size; clear hQ6
  clear hb7 hO6 hL6 hB6
  go_wp2_with fail
  refine (rfirst_yes A n c l hn hc f hf _ hL7).mono ?_
  rintro en w8 ⟨rfl, m8, rfl⟩
  have hb8 : Below w7.heap.size w7 (w7.drewN m8) := below_drewN (Below.refl _ _) _
  obtain ⟨w8, hw8⟩ : ∃ w8, w7.drewN m8 = w8 := ⟨_, rfl⟩
  rw [hw8] at hb8 ⊢
  clear hw8
  have hO8 := (hO7.below hb8).more hb8.size
  have hL8 := (hL7.below hb8).more hb8.size
  have hB8 := hB7.trans (hb8.mono hB7.size)
  have hP8 := (hP7.below hb8).more hb8.size; have hZ8 := (hZ7.trans (hb8.mono hZ7.size)); have hW8 := row_below hW7 hb8; clear hP7 hZ7 hW7
  have hQ8 := (hQ7.below hb8).more hb8.size; clear hQ7
  clear hb8 hO7 hL7 hB7
  have hs0 := same_yes Ap Aq (n + 1) cp cq w8.heap.size w8.heap.size (ins l b t) (by rw [ins_len hb.1, hn]) (by omega) w8 hP8 hQ8
  clear hR hgr h hc hb hf hin
  go_wp2_with fail
  refine hs0.mono ?_
  rintro en w9 ⟨rfl, m9, rfl⟩
  have hZ9 := below_drewN hZ8 m9
  have hB9 := below_drewN hB8 m9
  have hW9 : Row w2.heap.size (w8.drewN m9) Ap (n + 1) := hW8
  obtain ⟨w9, hw9⟩ : ∃ w9, w8.drewN m9 = w9 := ⟨_, rfl⟩
  rw [hw9] at hZ9 hB9 hW9 ⊢
  clear hw9 hs0 hO8 hL8 hB8 hZ8 hW8 hP8 hQ8
  go_wp2
  go_loopw [23] (fun i wr => ∃ k : Nat, k ≤ n + 1 ∧ i = .int .i64 k ∧ Below w2.heap.size w2 wr ∧ Below w.heap.size w wr ∧ Row w2.heap.size wr Ap (n + 1)) (fun i _ => n + 1 - (intOf i).toNat)
  case atStart => exact ⟨0, by omega, rfl, hZ9, hB9, hW9⟩
  case round =>
    obtain ⟨k, hk, rfl, hZ, hB, hW⟩ := hrel
    clear hZ9 hB9 hW9
    by_cases hlt : k < n + 1
    · obtain ⟨g, cur, rfl, hg, hBlk, hcs⟩ := hW
      have i1 : (0 : Int) ≤ k := by omega
      have i2 : (k : Int) < (n : Int) + 1 := by omega
      have i3 : decide ((k : Int) < (n : Int) + 1) = true := decide_eq_true i2
      have c1 := hBlk.cell k
      rw [Array.getElem?_eq_getElem (by omega)] at c1
      obtain ⟨u, hu⟩ : ∃ u, cur[k] = u := ⟨_, rfl⟩
      rw [hu] at c1
      have c2 := hBlk.frozen k
      have hR' : Row w2.heap.size (wr.setCell ⟨g, k, none⟩ (.int .i64 (-7))) (some ⟨g, 0, none⟩) (n + 1) := Row.set1 ⟨g, cur, rfl, hg, hBlk, hcs⟩ _
      have hZ' : Below w2.heap.size w2 (wr.setCell ⟨g, k, none⟩ (.int .i64 (-7))) := hZ.setCell hg _
      have hB' : Below w.heap.size w (wr.setCell ⟨g, k, none⟩ (.int .i64 (-7))) := hB.setCell (Nat.le_trans hsz hg) _
      have HN := Lib.hid hn
      clear hu hZ hB hBlk hcs hn hsz hg hO2z hL2z
      go_wp2
      go_roundw
      case rel => exact ⟨k + 1, by omega, by go_num, hZ', hB', hR'⟩
      case measure => simp [intOf]; omega
    · obtain rfl : k = n + 1 := by omega
      have hO := hO2z.below hZ
      have hL := hL2z.below hZ
      have i3 : decide (((n : Int) + 1) < (n : Int) + 1) = false := decide_eq_false (by omega)
      have hck := fun w h => check_any Ao n co w2.heap.size l hn w h
      have hrk := fun w h => rcheck_any A n c w2.heap.size l hn w h
      have hsm := fun w h h' => same_yes Ao A n co c w2.heap.size w2.heap.size l hn (by omega) w h h'
      have HN := Lib.hid hn
      clear hn hO2z hL2z hZ hW
      go_wp2_with fail
      refine (hck _ hO).mono ?_
      rintro en wa ⟨rfl, rfl⟩
      go_wp2_with fail
      refine (hrk _ hL).mono ?_
      rintro en wb ⟨rfl, mb, rfl⟩
      go_wp2_with fail
      refine (hsm _ (hO.drewN _) (hL.drewN _)).mono ?_
      rintro en wc ⟨rfl, mc, rfl⟩
      clear hO hL hck hrk hsm
      go_wp2
      go_ret
      exact ⟨rfl, below_drewN hB _⟩
theorem walk (A : Option Addr) (n c : Nat) (l : List Int) (hn : l.length = n) (t : Int) (w : World) (hR : Reads w w.heap.size 1 A n (ints l)) :
    Calls Try.prog 5 #[.slice A n c, .int .i64 t] w fun en w' => en = .returned (.bool true) ∧ Below w.heap.size w w' := by
  have hgr := great_any A n c
  by_cases hG : 200 < n ∧ n < 4096 ∨ 4100 < n
  · rw [decide_eq_true hG] at hgr
    exact great A n c l hn t hgr w hR
  rw [decide_eq_false hG] at hgr
  have hm5 : n ≤ 4100 := by omega
  by_cases hc : chkL l = 0
  · obtain ⟨f, hf⟩ := first_of hc
    by_cases h : askE l t = 0
    · obtain ⟨b, hb⟩ := below_of (A := A) (c := c) hn h
      by_cases hin : t ∈ l
      · exact again A n c l hn t hgr hm5 h hc b hb f hf hin w hR
      · have hm := (chk_zero hc).1
        rcases Nat.lt_or_ge n 4096 with hff | hff
        · exact yes A n c l hn t hgr hm5 h hc b hb f hf hin hff w hR
        · exact full A n c l hn t hgr hm5 h hc b hb f hf hin (by omega) w hR
    · exact arg A n c l hn t hgr hm5 _ rfl hc (by simpa using h) (by simpa using h) f hf w hR
  · exact bad A n c l hn t hgr hm5 _ rfl (by simpa using hc) (by simpa using hc) w hR
end Go.Proofs.Ytocnmdnicoahnaa.SeenTells
