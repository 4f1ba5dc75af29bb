/- Limb: how two numbers stand, and whether two are the same: the program's and the reference's. -/
import Derived.Test.YtaklmkjldmbleaaDoorB
namespace Go.Proofs.YtaklmkjldmbleaaDoor
open Go.ChangeShapes Go.WideShapes Go.ChangeAt Go.RowKit
set_option linter.unusedSimpArgs false
set_option linter.unusedVariables false
theorem canon_ge {B : Nat} (hB : 2 ≤ B) : ∀ {l : List Nat}, Canon l → 0 < l.length → B ^ (l.length - 1) ≤ val B l
  | [], _, h => by simp at h
  | x :: [], h, _ => by
    rcases h with h | h
    · simp at h
    · simp at h
      rw [val_cons, val_nil]
      simp
      omega
  | x :: y :: r, h, _ => by
    have := canon_ge hB (canon_tail h) (by simp)
    rw [val_cons]
    simp only [List.length_cons, Nat.add_sub_cancel] at this ⊢
    rw [Nat.pow_succ, Nat.mul_comm]
    have := Nat.mul_le_mul_left B this
    omega
theorem canon_len_lt {B : Nat} (hB : 2 ≤ B) {a b : List Nat} (ha : ∀ x ∈ a, x < B) (cb : Canon b) (h : a.length < b.length) : val B a < val B b :=
  Nat.lt_of_lt_of_le (val_lt ha) (Nat.le_trans (Nat.pow_le_pow_right (by omega) (by omega)) (canon_ge hB cb (by omega)))
set_option maxHeartbeats 4000000 in
theorem order_any (A A2 : Option Addr) (n n2 c c2 B B2 : Nat) (a b : List Nat) (hn : a.length = n) (hn2 : b.length = n2) (hm : n ≤ 100000) (hm2 : n2 ≤ 100000) (ha : ∀ x ∈ a, x < 4294967296) (hb : ∀ x ∈ b, x < 4294967296) (ca : Canon a) (cb : Canon b) (w : World) (hR : Reads w B 1 A n (ints .u32 a)) (hR2 : Reads w B2 1 A2 n2 (ints .u32 b)) :
    Calls Tryd.prog 45 #[.slice A n c, .slice A2 n2 c2] w fun en w' => en = .returned (.int .i64 (cmpI (val 4294967296 a) (val 4294967296 b))) ∧ ∃ m, w' = w.drewN m := by
  by_cases hlen : n = n2
  · subst hlen
    obtain ⟨R, hRr⟩ : ∃ R, cmpI (val 4294967296 a) (val 4294967296 b) = R := ⟨_, rfl⟩
    rw [hRr]
    have pa := pre_all 4294967296 a n (by omega)
    have pb := pre_all 4294967296 b n (by omega)
    have lt1 : ∀ k, k < n → (∀ j, k + 1 ≤ j → j < n → a.getD j 0 = b.getD j 0) → a.getD k 0 < b.getD k 0 → R = -1 := fun k hk h0 h => by
      have := cmp_top (B := 4294967296) (by omega) ha hb hk (fun i h1 h2 => h0 i (by omega) h2) h
      rw [← hRr]; unfold cmpI; rw [if_pos (by omega)]
    have gt1 : ∀ k, k < n → (∀ j, k + 1 ≤ j → j < n → a.getD j 0 = b.getD j 0) → b.getD k 0 < a.getD k 0 → R = 1 := fun k hk h0 h => by
      have := cmp_top (B := 4294967296) (by omega) hb ha hk (fun i h1 h2 => (h0 i (by omega) h2).symm) h
      rw [← hRr]; unfold cmpI; rw [if_neg (by omega), if_pos (by omega)]
    have eq1 : (∀ j, 0 ≤ j → j < n → a.getD j 0 = b.getD j 0) → R = 0 := fun h => by
      have := pre_eq (B := 4294967296) (n := n) (fun i hi => h i (by omega) hi)
      rw [← hRr]; unfold cmpI; rw [if_neg (by omega), if_neg (by omega)]
    have g1 := Lib.hid lt1
    have g2 := Lib.hid gt1
    have g3 := Lib.hid eq1
    have gn := Lib.hid hn
    have gn2 := Lib.hid hn2
    clear lt1 gt1 eq1 pa pb hRr ha hb ca cb hn hn2
    have t1 : ((n : Int) != n) = false := by simp
    go_enter Tryd.func45, Tryd.ntmps45
    go_wp2
    go_loopw [5] (fun t wr => ∃ k m : Nat, k ≤ n ∧ t = .int .i64 ((k : Int) - 1) ∧ Hid (∀ j, k ≤ j → j < n → a.getD j 0 = b.getD j 0) ∧ wr = w.drewN m) (fun t _ => (intOf t + 1).toNat)
    case atStart => exact ⟨n, 0, Nat.le_refl _, rfl, Lib.hid (fun j h1 h2 => by omega), rfl⟩
    case round =>
      obtain ⟨k, m, hk, rfl, h0, rfl⟩ := hrel
      rcases Nat.eq_zero_or_pos k with rfl | hp
      · obtain rfl := g3.out h0.out
        clear hR hR2 g1 g2 g3 h0 gn gn2
        go_wp2
        go_ret
        exact ⟨rfl, m, rfl⟩
      · obtain ⟨j, rfl⟩ : ∃ j, k = j + 1 := ⟨k - 1, by omega⟩
        obtain ⟨ad, rfl, hab, cA⟩ := at_ints gn.out hR (show j < n by omega)
        obtain ⟨ad2, rfl, hab2, cA2⟩ := at_ints gn2.out hR2 (show j < n by omega)
        have j2 : ((j + 1 : Nat) : Int) - 1 = j := by omega
        have i1 : (0 : Int) ≤ j := by omega
        have i2 : (j : Int) < n := by omega
        obtain ⟨x, hx⟩ : ∃ x, a.getD j 0 = x := ⟨_, rfl⟩
        obtain ⟨y, hy⟩ : ∃ y, b.getD j 0 = y := ⟨_, rfl⟩
        rw [hx] at cA
        rw [hy] at cA2
        rw [j2]
        rcases Nat.lt_trichotomy x y with h | h | h
        · obtain rfl := g1.out j (by omega) h0.out (by rw [hx, hy]; exact h)
          have t2 : ((x : Int) != y) = true := by simp; omega
          have t3 : decide ((x : Int) < y) = true := decide_eq_true (by omega)
          have t4 : (x != y) = true := by simp; omega
          have t5 : decide (x < y) = true := decide_eq_true h
          clear hx hy hR hR2 g1 g2 g3 h0 gn gn2 j2
          go_wp2_with fail
          go_quiet (fail)
          go_wp2_with fail
          go_quiet (fail)
          go_wp2
          go_ret
          refine ⟨rfl, ?_⟩
          simp only [World.drewN_drewN]
          exact ⟨_, rfl⟩
        · subst h
          have h0' : Hid (∀ i, j ≤ i → i < n → a.getD i 0 = b.getD i 0) := Lib.hid (fun i h1 h2 => by
            rcases Nat.eq_or_lt_of_le h1 with rfl | h3
            · rw [hx, hy]
            · exact h0.out i (by omega) h2)
          have t2 : ((x : Int) != x) = false := by simp
          clear hx hy hR hR2 g1 g2 g3 h0 gn gn2 j2
          go_wp2_with fail
          go_quiet (fail)
          go_wp2
          go_roundw
          case rel => exact ⟨j, _, by omega, by first | rfl | go_num, h0', rfl⟩
          case measure => simp [intOf] <;> omega
        · obtain rfl := g2.out j (by omega) h0.out (by rw [hx, hy]; exact h)
          have t2 : ((x : Int) != y) = true := by simp; omega
          have t3 : decide ((x : Int) < y) = false := decide_eq_false (by omega)
          have t4 : (x != y) = true := by simp; omega
          have t5 : decide (x < y) = false := decide_eq_false (by omega)
          clear hx hy hR hR2 g1 g2 g3 h0 gn gn2 j2
          go_wp2_with fail
          go_quiet (fail)
          go_wp2_with fail
          go_quiet (fail)
          go_wp2
          go_ret
          refine ⟨rfl, ?_⟩
          simp only [World.drewN_drewN]
          exact ⟨_, rfl⟩
  · have t1 : ((n : Int) != n2) = true := by simp; omega
    have t2 : (n != n2) = true := by simpa using hlen
    rcases Nat.lt_or_ge n n2 with h | h
    · have := canon_len_lt (B := 4294967296) (by omega) ha cb (by omega)
      rw [show cmpI (val 4294967296 a) (val 4294967296 b) = -1 by unfold cmpI; rw [if_pos this]]
      have t3 : decide ((n : Int) < n2) = true := decide_eq_true (by omega)
      have t4 : decide (n < n2) = true := decide_eq_true h
      clear hR hR2 ha hb ca cb hn hn2 this
      go_enter Tryd.func45, Tryd.ntmps45
      go_wp2
      go_ret
      exact ⟨rfl, 0, rfl⟩
    · have := canon_len_lt (B := 4294967296) (by omega) hb ca (by omega)
      rw [show cmpI (val 4294967296 a) (val 4294967296 b) = 1 by unfold cmpI; rw [if_neg (by omega), if_pos this]]
      have t3 : decide ((n : Int) < n2) = false := decide_eq_false (by omega)
      have t4 : decide (n < n2) = false := decide_eq_false (by omega)
      clear hR hR2 ha hb ca cb hn hn2 this
      go_enter Tryd.func45, Tryd.ntmps45
      go_wp2
      go_ret
      exact ⟨rfl, 0, rfl⟩
set_option maxHeartbeats 4000000 in
theorem equal_any (A A2 : Option Addr) (n n2 c c2 B B2 : Nat) (a b : List Nat) (hn : a.length = n) (hn2 : b.length = n2) (hm : n ≤ 100000) (hm2 : n2 ≤ 100000) (w : World) (hR : Reads w B 1 A n (ints .u32 a)) (hR2 : Reads w B2 1 A2 n2 (ints .u32 b)) :
    Calls Tryd.prog 44 #[.slice A n c, .slice A2 n2 c2] w fun en w' => en = .returned (.bool (decide (a = b))) ∧ ∃ m, w' = w.drewN m := by
  by_cases hlen : n = n2
  · subst hlen
    have no : ∀ k, k < n → a.getD k 0 ≠ b.getD k 0 → decide (a = b) = false := fun k _ h => decide_eq_false (fun e => h (by rw [e]))
    have yes : (∀ k, k < n → a.getD k 0 = b.getD k 0) → decide (a = b) = true := fun h => decide_eq_true (by
      apply List.ext_getElem (by omega)
      intro i h1 h2
      have := h i (by omega)
      rw [List.getD_eq_getElem?_getD, List.getD_eq_getElem?_getD, List.getElem?_eq_getElem h1, List.getElem?_eq_getElem h2] at this
      exact this)
    obtain ⟨R, hRr⟩ : ∃ R, decide (a = b) = R := ⟨_, rfl⟩
    rw [hRr] at no yes ⊢
    have gno := Lib.hid no
    have gyes := Lib.hid yes
    have gn := Lib.hid hn
    have gn2 := Lib.hid hn2
    have t1 : ((n : Int) != n) = false := by simp
    clear no yes hRr hn hn2
    go_enter Tryd.func44, Tryd.ntmps44
    go_wp2
    go_loopw [13] (fun t wr => ∃ k m : Nat, k ≤ n ∧ t = .int .i64 (k : Int) ∧ Hid (∀ j, j < k → a.getD j 0 = b.getD j 0) ∧ wr = w.drewN m) (fun t _ => n - (intOf t).toNat)
    case atStart => exact ⟨0, 0, Nat.zero_le _, rfl, Lib.hid (fun j h1 => by omega), rfl⟩
    case round =>
      obtain ⟨k, m, hk, rfl, h0, rfl⟩ := hrel
      by_cases hlt : k < n
      · obtain ⟨ad, rfl, hab, cA⟩ := at_ints gn.out hR hlt
        obtain ⟨ad2, rfl, hab2, cA2⟩ := at_ints gn2.out hR2 hlt
        have i1 : (0 : Int) ≤ k := by omega
        have i2 : (k : Int) < n := by omega
        obtain ⟨x, hx⟩ : ∃ x, a.getD k 0 = x := ⟨_, rfl⟩
        obtain ⟨y, hy⟩ : ∃ y, b.getD k 0 = y := ⟨_, rfl⟩
        rw [hx] at cA
        rw [hy] at cA2
        by_cases h : x = y
        · subst h
          have h0' : Hid (∀ i, i < k + 1 → a.getD i 0 = b.getD i 0) := Lib.hid (fun i h1 => by
            rcases Nat.lt_or_ge i k with h3 | h3
            · exact h0.out i h3
            · rw [show i = k by omega, hx, hy])
          have t2 : ((x : Int) != x) = false := by simp
          clear hx hy hR hR2 gno gyes h0 gn gn2
          go_wp2_with fail
          go_quiet (fail)
          go_wp2
          go_roundw
          case rel => exact ⟨k + 1, _, by omega, by go_num, h0', rfl⟩
          case measure => simp [intOf] <;> omega
        · obtain rfl := gno.out k hlt (by rw [hx, hy]; exact h)
          have t2 : ((x : Int) != y) = true := by simp; omega
          have t4 : (x != y) = true := by simp; omega
          clear hx hy hR hR2 gyes h0 gn gn2 gno
          go_wp2_with fail
          go_quiet (fail)
          go_wp2
          go_ret
          refine ⟨rfl, ?_⟩
          simp only [World.drewN_drewN]
          exact ⟨_, rfl⟩
      · obtain rfl : k = n := by omega
        obtain rfl := gyes.out h0.out
        clear hR hR2 gno gyes h0 gn gn2
        go_wp2
        go_ret
        exact ⟨rfl, m, rfl⟩
  · rw [decide_eq_false (show ¬ a = b from fun e => hlen (by rw [← hn, ← hn2, e]))]
    have t1 : ((n : Int) != n2) = true := by simp; omega
    have t2 : (n != n2) = true := by simpa using hlen
    clear hR hR2 hn hn2
    go_enter Tryd.func44, Tryd.ntmps44
    go_wp2
    go_ret
    exact ⟨rfl, 0, rfl⟩
theorem same_any (A A2 : Option Addr) (n n2 c c2 B B2 : Nat) (a b : List Nat) (hn : a.length = n) (hn2 : b.length = n2) (hm : n ≤ 100000) (hm2 : n2 ≤ 100000) (w : World) (hR : Reads w B 1 A n (ints .u32 a)) (hR2 : Reads w B2 1 A2 n2 (ints .u32 b)) :
    Calls Tryd.prog 22 #[.slice A n c, .slice A2 n2 c2] w fun en w' => en = .returned (.bool (decide (a = b))) ∧ ∃ m, w' = w.drewN m := by
  have h := equal_any A A2 n n2 c c2 B B2 a b hn hn2 hm hm2 w hR hR2
  obtain ⟨R, hRr⟩ : ∃ R, decide (a = b) = R := ⟨_, rfl⟩
  rw [hRr] at h ⊢
  clear hR hR2 hn hn2 hRr
  go_enter Tryd.func22, Tryd.ntmps22
  go_wp2_with (go_at_call 44; refine h.mono ?_; rintro e w' ⟨rfl, m, rfl⟩)
  go_ret
  exact ⟨rfl, m, rfl⟩
set_option maxHeartbeats 4000000 in
theorem rsame_any (A A2 : Option Addr) (n n2 c c2 B B2 : Nat) (a b : List Nat) (hn : a.length = n) (hn2 : b.length = n2) (hm : n ≤ 100000) (hm2 : n2 ≤ 100000) (w : World) (hR : Reads w B 1 A n (ints .u32 a)) (hR2 : Reads w B2 1 A2 n2 (ints .u32 b)) :
    Calls Tryd.prog 17 #[.slice A n c, .slice A2 n2 c2] w fun en w' => en = .returned (.bool (decide (a = b))) ∧ ∃ m, w' = w.drewN m := by
  by_cases hlen : n = n2
  · subst hlen
    have no : ∀ k, k < n → a.getD k 0 ≠ b.getD k 0 → decide (a = b) = false := fun k _ h => decide_eq_false (fun e => h (by rw [e]))
    have yes : (∀ k, k < n → a.getD k 0 = b.getD k 0) → decide (a = b) = true := fun h => decide_eq_true (by
      apply List.ext_getElem (by omega)
      intro i h1 h2
      have := h i (by omega)
      rw [List.getD_eq_getElem?_getD, List.getD_eq_getElem?_getD, List.getElem?_eq_getElem h1, List.getElem?_eq_getElem h2] at this
      exact this)
    obtain ⟨R, hRr⟩ : ∃ R, decide (a = b) = R := ⟨_, rfl⟩
    rw [hRr] at no yes ⊢
    have gno := Lib.hid no
    have gyes := Lib.hid yes
    have gn := Lib.hid hn
    have gn2 := Lib.hid hn2
    have t1 : ((n : Int) != n) = false := by simp
    clear no yes hRr hn hn2
    go_enter Tryd.func17, Tryd.ntmps17
    go_wp2
    go_loopw [5] (fun t wr => ∃ k m : Nat, k ≤ n ∧ t = .int .i64 (k : Int) ∧ Hid (∀ j, j < k → a.getD j 0 = b.getD j 0) ∧ wr = w.drewN m) (fun t _ => n - (intOf t).toNat)
    case atStart => exact ⟨0, 0, Nat.zero_le _, rfl, Lib.hid (fun j h1 => by omega), rfl⟩
    case round =>
      obtain ⟨k, m, hk, rfl, h0, rfl⟩ := hrel
      by_cases hlt : k < n
      · obtain ⟨ad, rfl, hab, cA⟩ := at_ints gn.out hR hlt
        obtain ⟨ad2, rfl, hab2, cA2⟩ := at_ints gn2.out hR2 hlt
        have i1 : (0 : Int) ≤ k := by omega
        have i2 : (k : Int) < n := by omega
        obtain ⟨x, hx⟩ : ∃ x, a.getD k 0 = x := ⟨_, rfl⟩
        obtain ⟨y, hy⟩ : ∃ y, b.getD k 0 = y := ⟨_, rfl⟩
        rw [hx] at cA
        rw [hy] at cA2
        by_cases h : x = y
        · subst h
          have h0' : Hid (∀ i, i < k + 1 → a.getD i 0 = b.getD i 0) := Lib.hid (fun i h1 => by
            rcases Nat.lt_or_ge i k with h3 | h3
            · exact h0.out i h3
            · rw [show i = k by omega, hx, hy])
          have t2 : ((x : Int) != x) = false := by simp
          clear hx hy hR hR2 gno gyes h0 gn gn2
          go_wp2_with fail
          go_quiet (fail)
          go_wp2
          go_roundw
          case rel => exact ⟨k + 1, _, by omega, by go_num, h0', rfl⟩
          case measure => simp [intOf] <;> omega
        · obtain rfl := gno.out k hlt (by rw [hx, hy]; exact h)
          have t2 : ((x : Int) != y) = true := by simp; omega
          have t4 : (x != y) = true := by simp; omega
          clear hx hy hR hR2 gyes h0 gn gn2 gno
          go_wp2_with fail
          go_quiet (fail)
          go_wp2
          go_ret
          refine ⟨rfl, ?_⟩
          simp only [World.drewN_drewN]
          exact ⟨_, rfl⟩
      · obtain rfl : k = n := by omega
        obtain rfl := gyes.out h0.out
        clear hR hR2 gno gyes h0 gn gn2
        go_wp2
        go_ret
        exact ⟨rfl, m, rfl⟩
  · rw [decide_eq_false (show ¬ a = b from fun e => hlen (by rw [← hn, ← hn2, e]))]
    have t1 : ((n : Int) != n2) = true := by simp; omega
    have t2 : (n != n2) = true := by simpa using hlen
    clear hR hR2 hn hn2
    go_enter Tryd.func17, Tryd.ntmps17
    go_wp2
    go_ret
    exact ⟨rfl, 0, rfl⟩
end Go.Proofs.YtaklmkjldmbleaaDoor
