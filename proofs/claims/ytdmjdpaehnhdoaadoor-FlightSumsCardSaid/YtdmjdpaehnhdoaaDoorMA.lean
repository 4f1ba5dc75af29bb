/- Mass: limbs: whether two are the same, and copies of them -/
import Derived.Test.YtdmjdpaehnhdoaaDoorProg
import Derived.Test.YtdmjdpaehnhdoaaDoorKA
import Derived.Lib.BufferRead
import Derived.WalkSpells
import Derived.RegionTactic
import Derived.BigRegion
namespace Go.Proofs.YtdmjdpaehnhdoaaDoor
open Go.ChangeShapes Go.WideShapes Go.ChangeAt Go.RowKit
set_option linter.unusedSimpArgs false
set_option linter.unusedVariables false
theorem infoU32 : (Tryd.prog.info? 71).map (fun i => (i.zero, i.size, i.bytes)) = some (some (.int .u32 0), 1, 4) := by kernel_rfl
def ClPost (w : World) (n : Nat) (a : List Nat) (en : Ending) (w' : World) : Prop := ∃ Ao co, en = .returned (.slice Ao n co) ∧ n ≤ co ∧ OwnR w' w.heap.size 71 Ao n (ints .u32 a) ∧ Below w.heap.size w w'
set_option maxHeartbeats 2000000 in
theorem clone_any (A : Option Addr) (n c : Nat) (a : List Nat) (hn : a.length = n) (hm : n ≤ 100000) (w : World) (hR : Reads w w.heap.size 1 A n (ints .u32 a)) :
    Calls Tryd.prog 97 #[.slice A n c] w (ClPost w n a) := by
  rcases A with _ | ad
  · have h0 : n = 0 := by
      rcases Nat.eq_zero_or_pos n with h | h
      · exact h
      · obtain ⟨ad, h1, _⟩ := hR.2 h
        cases h1
    subst h0
    have ha : a = [] := List.eq_nil_of_length_eq_zero hn
    subst ha
    have q22 : ∀ (w : World), (binOp .eql 23 (.slice none 0 c) (.slice none 0 0)).run Tryd.prog w = .ok (.bool true) w := fun w => Lib.run_eql_slice_nil w _ _ none 0 c 0 0 Tryd.underlying23
    clear hn hR
    go_enter Tryd.func97, Tryd.ntmps97
    go_wp2
    go_ret
    exact ⟨none, 0, rfl, Nat.le_refl _, OwnR.none_, Below.refl _ _⟩
  · obtain ⟨i0, hi0, hz0, hz1, hz2⟩ := info_parts infoU32
    clear hn
    have q22 : ∀ (w : World), (binOp .eql 23 (.slice (some ad) n c) (.slice none 0 0)).run Tryd.prog w = .ok (.bool false) w := fun w => Lib.run_eql_slice_nil w _ _ (some ad) n c 0 0 Tryd.underlying23
    go_enter Tryd.func97, Tryd.ntmps97
    go_wp2_with (at_builtin; refine wpList_append_any _ rfl (.tmp 5) (.tmp 6) 23 rfl w.heap.size 71 i0 _ 1 4 Tryd.underlying23 hi0 hz0 hz1 hz2 rfl (by omega) (.slice (some ⟨w.heap.size, 0, none⟩) 0 0) 0 [] rfl (owns_new w w.heap.size (Nat.le_refl _) [] 71 0 rfl (Nat.zero_le _)) w.heap.size (some ad) n c (ints .u32 a) rfl (hR.alloc (Nat.le_refl _) _) (ints_one _ _) (by unfold maxLen; omega) (by omega) (by rw [World.size_alloc]; omega) ?_; intro v4 w4 ho4 hg4 _; rw [Nat.zero_add, List.nil_append] at ho4; obtain ⟨Ao, co, rfl, hco, ro⟩ := own_slice ho4)
    go_ret
    refine ⟨Ao, co, rfl, hco, OwnR.of_row ho4, Below.grown ((Below.refl w.heap.size w).alloc (Nat.le_refl _) _) hg4 (by rw [World.size_alloc]; omega) ?_⟩
    intro q hq
    simp [Value.ownBlock] at hq
    omega
set_option maxHeartbeats 4000000 in
theorem lequal_any (A A2 : Option Addr) (n n2 c c2 B B2 : Nat) (a b : List Nat) (hn : a.length = n) (hn2 : b.length = n2) (hm : n ≤ 100000) (hm2 : n2 ≤ 100000) (w : World) (hR : Reads w B 1 A n (ints .u32 a)) (hR2 : Reads w B2 1 A2 n2 (ints .u32 b)) :
    Calls Tryd.prog 86 #[.slice A n c, .slice A2 n2 c2] w fun en w' => en = .returned (.bool (decide (a = b))) ∧ ∃ m, w' = w.drewN m := by
  by_cases hlen : n = n2
  · subst hlen
    have no : ∀ k, k < n → a.getD k 0 ≠ b.getD k 0 → decide (a = b) = false := fun k _ h => decide_eq_false (fun e => h (by rw [e]))
    have yes : (∀ k, k < n → a.getD k 0 = b.getD k 0) → decide (a = b) = true := fun h => decide_eq_true (by
      apply List.ext_getElem (by omega)
      intro i h1 h2
      have := h i (by omega)
      rw [List.getD_eq_getElem?_getD, List.getD_eq_getElem?_getD, List.getElem?_eq_getElem h1, List.getElem?_eq_getElem h2] at this
      exact this)
    obtain ⟨R, hRr⟩ : ∃ R, decide (a = b) = R := ⟨_, rfl⟩
    rw [hRr] at no yes ⊢
    have gno := Lib.hid no
    have gyes := Lib.hid yes
    have gn := Lib.hid hn
    have gn2 := Lib.hid hn2
    have t1 : ((n : Int) != n) = false := by simp
    clear no yes hRr hn hn2
    go_enter Tryd.func86, Tryd.ntmps86
    go_wp2
    go_loopw [13] (fun t wr => ∃ k m : Nat, k ≤ n ∧ t = .int .i64 (k : Int) ∧ Hid (∀ j, j < k → a.getD j 0 = b.getD j 0) ∧ wr = w.drewN m) (fun t _ => n - (intOf t).toNat)
    case atStart => exact ⟨0, 0, Nat.zero_le _, rfl, Lib.hid (fun j h1 => by omega), rfl⟩
    case round =>
      obtain ⟨k, m, hk, rfl, h0, rfl⟩ := hrel
      by_cases hlt : k < n
      · obtain ⟨ad, rfl, hab, cA⟩ := at_ints gn.out hR hlt
        obtain ⟨ad2, rfl, hab2, cA2⟩ := at_ints gn2.out hR2 hlt
        have i1 : (0 : Int) ≤ k := by omega
        have i2 : (k : Int) < n := by omega
        obtain ⟨x, hx⟩ : ∃ x, a.getD k 0 = x := ⟨_, rfl⟩
        obtain ⟨y, hy⟩ : ∃ y, b.getD k 0 = y := ⟨_, rfl⟩
        rw [hx] at cA
        rw [hy] at cA2
        by_cases h : x = y
        · subst h
          have h0' : Hid (∀ i, i < k + 1 → a.getD i 0 = b.getD i 0) := Lib.hid (fun i h1 => by
            rcases Nat.lt_or_ge i k with h3 | h3
            · exact h0.out i h3
            · rw [show i = k by omega, hx, hy])
          have t2 : ((x : Int) != x) = false := by simp
          clear hx hy hR hR2 gno gyes h0 gn gn2
          go_wp2_with fail
          go_quiet (fail)
          go_wp2
          go_roundw
          case rel => exact ⟨k + 1, _, by omega, by go_num, h0', rfl⟩
          case measure => simp [intOf] <;> omega
        · obtain rfl := gno.out k hlt (by rw [hx, hy]; exact h)
          have t2 : ((x : Int) != y) = true := by simp; omega
          have t4 : (x != y) = true := by simp; omega
          clear hx hy hR hR2 gyes h0 gn gn2 gno
          go_wp2_with fail
          go_quiet (fail)
          go_wp2
          go_ret
          refine ⟨rfl, ?_⟩
          simp only [World.drewN_drewN]
          exact ⟨_, rfl⟩
      · obtain rfl : k = n := by omega
        obtain rfl := gyes.out h0.out
        clear hR hR2 gno gyes h0 gn gn2
        go_wp2
        go_ret
        exact ⟨rfl, m, rfl⟩
  · rw [decide_eq_false (show ¬ a = b from fun e => hlen (by rw [← hn, ← hn2, e]))]
    have t1 : ((n : Int) != n2) = true := by simp; omega
    have t2 : (n != n2) = true := by simpa using hlen
    clear hR hR2 hn hn2
    go_enter Tryd.func86, Tryd.ntmps86
    go_wp2
    go_ret
    exact ⟨rfl, 0, rfl⟩
theorem limbs_same (A A2 : Option Addr) (n n2 c c2 B B2 : Nat) (a b : List Nat) (hn : a.length = n) (hn2 : b.length = n2) (hm : n ≤ 100000) (hm2 : n2 ≤ 100000) (w : World) (hR : Reads w B 1 A n (ints .u32 a)) (hR2 : Reads w B2 1 A2 n2 (ints .u32 b)) :
    Calls Tryd.prog 57 #[.slice A n c, .slice A2 n2 c2] w fun en w' => en = .returned (.bool (decide (a = b))) ∧ ∃ m, w' = w.drewN m := by
  have h := lequal_any A A2 n n2 c c2 B B2 a b hn hn2 hm hm2 w hR hR2
  obtain ⟨R, hRr⟩ : ∃ R, decide (a = b) = R := ⟨_, rfl⟩
  rw [hRr] at h ⊢
  clear hR hR2 hn hn2 hRr
  go_enter Tryd.func57, Tryd.ntmps57
  go_wp2_with (go_at_call 86; refine h.mono ?_; rintro e w' ⟨rfl, m, rfl⟩)
  go_ret
  exact ⟨rfl, m, rfl⟩
set_option maxHeartbeats 4000000 in
theorem rlimbs_same (A A2 : Option Addr) (n n2 c c2 B B2 : Nat) (a b : List Nat) (hn : a.length = n) (hn2 : b.length = n2) (hm : n ≤ 100000) (hm2 : n2 ≤ 100000) (w : World) (hR : Reads w B 1 A n (ints .u32 a)) (hR2 : Reads w B2 1 A2 n2 (ints .u32 b)) :
    Calls Tryd.prog 73 #[.slice A n c, .slice A2 n2 c2] w fun en w' => en = .returned (.bool (decide (a = b))) ∧ ∃ m, w' = w.drewN m := by
  by_cases hlen : n = n2
  · subst hlen
    have no : ∀ k, k < n → a.getD k 0 ≠ b.getD k 0 → decide (a = b) = false := fun k _ h => decide_eq_false (fun e => h (by rw [e]))
    have yes : (∀ k, k < n → a.getD k 0 = b.getD k 0) → decide (a = b) = true := fun h => decide_eq_true (by
      apply List.ext_getElem (by omega)
      intro i h1 h2
      have := h i (by omega)
      rw [List.getD_eq_getElem?_getD, List.getD_eq_getElem?_getD, List.getElem?_eq_getElem h1, List.getElem?_eq_getElem h2] at this
      exact this)
    obtain ⟨R, hRr⟩ : ∃ R, decide (a = b) = R := ⟨_, rfl⟩
    rw [hRr] at no yes ⊢
    have gno := Lib.hid no
    have gyes := Lib.hid yes
    have gn := Lib.hid hn
    have gn2 := Lib.hid hn2
    have t1 : ((n : Int) != n) = false := by simp
    clear no yes hRr hn hn2
    go_enter Tryd.func73, Tryd.ntmps73
    go_wp2
    go_loopw [5] (fun t wr => ∃ k m : Nat, k ≤ n ∧ t = .int .i64 (k : Int) ∧ Hid (∀ j, j < k → a.getD j 0 = b.getD j 0) ∧ wr = w.drewN m) (fun t _ => n - (intOf t).toNat)
    case atStart => exact ⟨0, 0, Nat.zero_le _, rfl, Lib.hid (fun j h1 => by omega), rfl⟩
    case round =>
      obtain ⟨k, m, hk, rfl, h0, rfl⟩ := hrel
      by_cases hlt : k < n
      · obtain ⟨ad, rfl, hab, cA⟩ := at_ints gn.out hR hlt
        obtain ⟨ad2, rfl, hab2, cA2⟩ := at_ints gn2.out hR2 hlt
        have i1 : (0 : Int) ≤ k := by omega
        have i2 : (k : Int) < n := by omega
        obtain ⟨x, hx⟩ : ∃ x, a.getD k 0 = x := ⟨_, rfl⟩
        obtain ⟨y, hy⟩ : ∃ y, b.getD k 0 = y := ⟨_, rfl⟩
        rw [hx] at cA
        rw [hy] at cA2
        by_cases h : x = y
        · subst h
          have h0' : Hid (∀ i, i < k + 1 → a.getD i 0 = b.getD i 0) := Lib.hid (fun i h1 => by
            rcases Nat.lt_or_ge i k with h3 | h3
            · exact h0.out i h3
            · rw [show i = k by omega, hx, hy])
          have t2 : ((x : Int) != x) = false := by simp
          clear hx hy hR hR2 gno gyes h0 gn gn2
          go_wp2_with fail
          go_quiet (fail)
          go_wp2
          go_roundw
          case rel => exact ⟨k + 1, _, by omega, by go_num, h0', rfl⟩
          case measure => simp [intOf] <;> omega
        · obtain rfl := gno.out k hlt (by rw [hx, hy]; exact h)
          have t2 : ((x : Int) != y) = true := by simp; omega
          have t4 : (x != y) = true := by simp; omega
          clear hx hy hR hR2 gyes h0 gn gn2 gno
          go_wp2_with fail
          go_quiet (fail)
          go_wp2
          go_ret
          refine ⟨rfl, ?_⟩
          simp only [World.drewN_drewN]
          exact ⟨_, rfl⟩
      · obtain rfl : k = n := by omega
        obtain rfl := gyes.out h0.out
        clear hR hR2 gno gyes h0 gn gn2
        go_wp2
        go_ret
        exact ⟨rfl, m, rfl⟩
  · rw [decide_eq_false (show ¬ a = b from fun e => hlen (by rw [← hn, ← hn2, e]))]
    have t1 : ((n : Int) != n2) = true := by simp; omega
    have t2 : (n != n2) = true := by simpa using hlen
    clear hR hR2 hn hn2
    go_enter Tryd.func73, Tryd.ntmps73
    go_wp2
    go_ret
    exact ⟨rfl, 0, rfl⟩
end Go.Proofs.YtdmjdpaehnhdoaaDoor
