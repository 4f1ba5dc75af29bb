/- Field: whether limbs and dyads may be (the program's and the reference's answer, of lists), and whether a dyad is great. -/
import Derived.Test.YtjmhefkmpfkpbaaProg
import Derived.Test.YtjmhefkmpfkpbaaKA
import Derived.Deep.QuietTactic
import Derived.BigQuiet
import Derived.WalkMore
import Derived.IntWalk
import Derived.Lib.Hide
namespace Go.Proofs.Ytjmhefkmpfkpbaa
open Go.ChangeShapes Go.WideShapes Go.ChangeAt Go.RowKit
set_option linter.unusedSimpArgs false
set_option linter.unusedVariables false
abbrev u32s (l : List Int) : List Value := l.map (Value.int .u32)
abbrev u8s (l : List Int) : List Value := l.map (Value.int .u8)
abbrev dy (neg : Bool) (A : Option Addr) (n c : Nat) (e : Int) : Value := .agg #[.bool neg, .slice A n c, .int .i64 e]
theorem at_u32 {w : World} {B n k : Nat} {A : Option Addr} {l : List Int} (hn : l.length = n) (hR : Reads w B 1 A n (u32s l)) (hk : k < n) : ∃ ad, A = some ad ∧ ad.block < B ∧ w.cell? (ad.add k) = some (.int .u32 (l.getD k 0)) := by
  obtain ⟨ad, u, hA, hb, hu, hc⟩ := hR.at_ hk
  refine ⟨ad, hA, hb, ?_⟩
  rw [hc]
  rw [List.getElem?_map, List.getElem?_eq_getElem (by omega)] at hu
  simp only [Option.map_some] at hu
  rw [← hu]
  simp [List.getD_eq_getElem?_getD, List.getElem?_eq_getElem (show k < l.length by omega)]
theorem at_u8 {w : World} {B n k : Nat} {A : Option Addr} {l : List Int} (hn : l.length = n) (hR : Reads w B 1 A n (u8s l)) (hk : k < n) : ∃ ad, A = some ad ∧ ad.block < B ∧ w.cell? (ad.add k) = some (.int .u8 (l.getD k 0)) := by
  obtain ⟨ad, u, hA, hb, hu, hc⟩ := hR.at_ hk
  refine ⟨ad, hA, hb, ?_⟩
  rw [hc]
  rw [List.getElem?_map, List.getElem?_eq_getElem (by omega)] at hu
  simp only [Option.map_some] at hu
  rw [← hu]
  simp [List.getD_eq_getElem?_getD, List.getElem?_eq_getElem (show k < l.length by omega)]
def mayL (l : List Int) : Bool := decide (l.length ≤ 40 ∧ (l.length = 0 ∨ l.getD (l.length - 1) 0 ≠ 0))
def mayD (neg : Bool) (l : List Int) (e : Int) : Bool := mayL l && decide (0 ≤ e ∧ e ≤ 1024 ∧ (l.length = 0 → e = 0 ∧ neg = false) ∧ (l.length ≠ 0 → e = 0 ∨ (l.getD 0 0).tmod 2 = 1))
set_option maxHeartbeats 1000000 in
theorem lcheck_many (A : Option Addr) (n c B : Nat) (h : 40 < n) (w : World) :
    Calls Try.prog 96 #[.slice A n c] w fun en w' => en = .returned (.int .i64 8) ∧ w = w' := by
  have d1 : decide ((40 : Int) < n) = true := by simp; omega
  have d1' : decide ((n : Int) ≤ 40) = false := by simp; omega
  go_enter Try.func96, Try.ntmps96
  go_wp2
  go_ret
  exact ⟨rfl, rfl⟩
theorem lcheck_none (A : Option Addr) (c : Nat) (w : World) :
    Calls Try.prog 96 #[.slice A 0 c] w fun en w' => en = .returned (.int .i64 0) ∧ w = w' := by
  go_enter Try.func96, Try.ntmps96
  go_wp2
  go_ret
  exact ⟨rfl, rfl⟩
set_option maxHeartbeats 1000000 in
theorem lcheck_zero (A : Option Addr) (n c B : Nat) (l : List Int) (hn : l.length = n) (h0 : 0 < n) (h : n ≤ 40) (hz : l.getD (n - 1) 0 = 0) (w : World) (hR : Reads w B 1 A n (u32s l)) :
    Calls Try.prog 96 #[.slice A n c] w fun en w' => en = .returned (.int .i64 8) ∧ w = w' := by
  have d1 : decide ((40 : Int) < n) = false := by simp; omega
  have d1' : decide ((n : Int) ≤ 40) = true := by simp; omega
  have d2 : decide ((0 : Int) < n) = true := by simp; omega
  have d3 : ((n : Int) == 0) = false := by simp; omega
  have d3' : ((n : Int) != 0) = true := by simp; omega
  have w0 : IntKind.i64.wrap ((n : Int) - 1) = (n : Int) - 1 := IntWalk.i64_in _ (by omega)
  have i1 : (0 : Int) ≤ n - 1 := by omega
  have i2 : (n : Int) - 1 < n := by omega
  obtain ⟨j, hj⟩ : ∃ j, n = j + 1 := ⟨n - 1, by omega⟩
  have hj0 : (n : Int) - 1 = (j : Int) := by omega
  have i3 : (0 : Int) ≤ j := by omega
  have i4 : (j : Int) < n := by omega
  have w1 : IntKind.i64.wrap (j : Int) = (j : Int) := IntWalk.i64_in _ (by omega)
  have w2 : wrap64 (j : Int) = (j : Int) := by unfold wrap64; omega
  obtain ⟨ad, rfl, hab, cA⟩ := at_u32 hn hR (show j < n by omega)
  rw [show n - 1 = j by omega] at hz
  obtain ⟨x, hx⟩ : ∃ x, l.getD j 0 = x := ⟨_, rfl⟩
  rw [hx] at cA hz
  have d4 : (x == 0) = true := by simpa using hz
  have d5 : (x != 0) = false := by simpa using hz
  clear hR hn hj hx hz h h0
  go_enter Try.func96, Try.ntmps96
  go_wp2
  go_ret
  exact ⟨rfl, rfl⟩
set_option maxHeartbeats 1000000 in
theorem lcheck_ok (A : Option Addr) (n c B : Nat) (l : List Int) (hn : l.length = n) (h0 : 0 < n) (h : n ≤ 40) (hz : l.getD (n - 1) 0 ≠ 0) (w : World) (hR : Reads w B 1 A n (u32s l)) :
    Calls Try.prog 96 #[.slice A n c] w fun en w' => en = .returned (.int .i64 0) ∧ w = w' := by
  have d1 : decide ((40 : Int) < n) = false := by simp; omega
  have d1' : decide ((n : Int) ≤ 40) = true := by simp; omega
  have d2 : decide ((0 : Int) < n) = true := by simp; omega
  have d3 : ((n : Int) == 0) = false := by simp; omega
  have d3' : ((n : Int) != 0) = true := by simp; omega
  have w0 : IntKind.i64.wrap ((n : Int) - 1) = (n : Int) - 1 := IntWalk.i64_in _ (by omega)
  have i1 : (0 : Int) ≤ n - 1 := by omega
  have i2 : (n : Int) - 1 < n := by omega
  obtain ⟨j, hj⟩ : ∃ j, n = j + 1 := ⟨n - 1, by omega⟩
  have hj0 : (n : Int) - 1 = (j : Int) := by omega
  have i3 : (0 : Int) ≤ j := by omega
  have i4 : (j : Int) < n := by omega
  have w1 : IntKind.i64.wrap (j : Int) = (j : Int) := IntWalk.i64_in _ (by omega)
  have w2 : wrap64 (j : Int) = (j : Int) := by unfold wrap64; omega
  obtain ⟨ad, rfl, hab, cA⟩ := at_u32 hn hR (show j < n by omega)
  rw [show n - 1 = j by omega] at hz
  obtain ⟨x, hx⟩ : ∃ x, l.getD j 0 = x := ⟨_, rfl⟩
  rw [hx] at cA hz
  have d4 : (x == 0) = false := by simpa using hz
  have d5 : (x != 0) = true := by simpa using hz
  clear hR hn hj hx hz h h0
  go_enter Try.func96, Try.ntmps96
  go_wp2
  go_ret
  exact ⟨rfl, rfl⟩
theorem lcheck_any (A : Option Addr) (n c B : Nat) (l : List Int) (hn : l.length = n) (w : World) (hR : Reads w B 1 A n (u32s l)) :
    Calls Try.prog 96 #[.slice A n c] w fun en w' => en = .returned (if mayL l = true then .int .i64 0 else .int .i64 8) ∧ w = w' := by
  by_cases h : 40 < n
  · have : mayL l = false := decide_eq_false (by omega)
    rw [this]
    exact lcheck_many A n c B h w
  · rcases Nat.eq_zero_or_pos n with h0 | h0
    · have : mayL l = true := decide_eq_true (by omega)
      rw [this]
      subst h0
      exact lcheck_none A c w
    · by_cases hz : l.getD (n - 1) 0 = 0
      · have : mayL l = false := decide_eq_false (by rw [hn]; omega)
        rw [this]
        exact lcheck_zero A n c B l hn h0 (by omega) hz w hR
      · have : mayL l = true := decide_eq_true (by rw [hn]; exact ⟨by omega, .inr hz⟩)
        rw [this]
        exact lcheck_ok A n c B l hn h0 (by omega) hz w hR
set_option maxHeartbeats 2000000 in
theorem dcheck_lim_zero (neg : Bool) (A : Option Addr) (n c : Nat) (l : List Int) (hn : l.length = n) (e : Int) (hL : ∀ w B, Reads w B 1 A n (u32s l) → Calls Try.prog 96 #[.slice A n c] w fun en w' => en = .returned (.int .i64 8) ∧ w = w') (hz : n = 0) (w : World) (hR : Reads w w.heap.size 1 A n (u32s l)) :
    Calls Try.prog 75 #[dy neg A n c e] w fun en w' => en = .returned (.int .i64 8) ∧ Below w.heap.size w w' := by
  have z : ((n : Int) == 0) = true := by simp; omega
  clear hz
  go_enter Try.func75, Try.ntmps75
  go_wp2_with fail
  refine (hL _ w.heap.size (hR.alloc (Nat.le_refl _) _)).mono ?_
  rintro en w1 ⟨rfl, rfl⟩
  clear hL hR hn
  go_wp2
  go_ret
  exact ⟨rfl, (Below.refl _ w).alloc (Nat.le_refl _) _⟩
set_option maxHeartbeats 2000000 in
theorem dcheck_low_zero (neg : Bool) (A : Option Addr) (n c : Nat) (l : List Int) (hn : l.length = n) (e : Int) (hL : ∀ w B, Reads w B 1 A n (u32s l) → Calls Try.prog 96 #[.slice A n c] w fun en w' => en = .returned (.int .i64 0) ∧ w = w') (hz : n = 0) (h : e < 0) (w : World) (hR : Reads w w.heap.size 1 A n (u32s l)) :
    Calls Try.prog 75 #[dy neg A n c e] w fun en w' => en = .returned (.int .i64 8) ∧ Below w.heap.size w w' := by
  have z : ((n : Int) == 0) = true := by simp; omega
  have e1 : decide (e < 0) = true := by simp; omega
  have e2 : decide ((1024 : Int) < e) = false := by simp; omega
  clear hz
  go_enter Try.func75, Try.ntmps75
  go_wp2_with fail
  refine (hL _ w.heap.size (hR.alloc (Nat.le_refl _) _)).mono ?_
  rintro en w1 ⟨rfl, rfl⟩
  clear hL hR hn
  go_wp2
  go_ret
  exact ⟨rfl, (Below.refl _ w).alloc (Nat.le_refl _) _⟩
set_option maxHeartbeats 2000000 in
theorem dcheck_high_zero (neg : Bool) (A : Option Addr) (n c : Nat) (l : List Int) (hn : l.length = n) (e : Int) (hL : ∀ w B, Reads w B 1 A n (u32s l) → Calls Try.prog 96 #[.slice A n c] w fun en w' => en = .returned (.int .i64 0) ∧ w = w') (hz : n = 0) (h : 1024 < e) (w : World) (hR : Reads w w.heap.size 1 A n (u32s l)) :
    Calls Try.prog 75 #[dy neg A n c e] w fun en w' => en = .returned (.int .i64 8) ∧ Below w.heap.size w w' := by
  have z : ((n : Int) == 0) = true := by simp; omega
  have e1 : decide (e < 0) = false := by simp; omega
  have e2 : decide ((1024 : Int) < e) = true := by simp; omega
  clear hz
  go_enter Try.func75, Try.ntmps75
  go_wp2_with fail
  refine (hL _ w.heap.size (hR.alloc (Nat.le_refl _) _)).mono ?_
  rintro en w1 ⟨rfl, rfl⟩
  clear hL hR hn
  go_wp2
  go_ret
  exact ⟨rfl, (Below.refl _ w).alloc (Nat.le_refl _) _⟩
set_option maxHeartbeats 2000000 in
theorem dcheck_lim_pos (neg : Bool) (A : Option Addr) (n c : Nat) (l : List Int) (hn : l.length = n) (e : Int) (hL : ∀ w B, Reads w B 1 A n (u32s l) → Calls Try.prog 96 #[.slice A n c] w fun en w' => en = .returned (.int .i64 8) ∧ w = w') (hz : 0 < n) (w : World) (hR : Reads w w.heap.size 1 A n (u32s l)) :
    Calls Try.prog 75 #[dy neg A n c e] w fun en w' => en = .returned (.int .i64 8) ∧ Below w.heap.size w w' := by
  have z : ((n : Int) == 0) = false := by simp; omega
  go_enter Try.func75, Try.ntmps75
  go_wp2_with fail
  refine (hL _ w.heap.size (hR.alloc (Nat.le_refl _) _)).mono ?_
  rintro en w1 ⟨rfl, rfl⟩
  clear hL hR hn
  go_wp2
  go_ret
  exact ⟨rfl, (Below.refl _ w).alloc (Nat.le_refl _) _⟩
set_option maxHeartbeats 2000000 in
theorem dcheck_low_pos (neg : Bool) (A : Option Addr) (n c : Nat) (l : List Int) (hn : l.length = n) (e : Int) (hL : ∀ w B, Reads w B 1 A n (u32s l) → Calls Try.prog 96 #[.slice A n c] w fun en w' => en = .returned (.int .i64 0) ∧ w = w') (hz : 0 < n) (h : e < 0) (w : World) (hR : Reads w w.heap.size 1 A n (u32s l)) :
    Calls Try.prog 75 #[dy neg A n c e] w fun en w' => en = .returned (.int .i64 8) ∧ Below w.heap.size w w' := by
  have z : ((n : Int) == 0) = false := by simp; omega
  have e1 : decide (e < 0) = true := by simp; omega
  have e2 : decide ((1024 : Int) < e) = false := by simp; omega
  go_enter Try.func75, Try.ntmps75
  go_wp2_with fail
  refine (hL _ w.heap.size (hR.alloc (Nat.le_refl _) _)).mono ?_
  rintro en w1 ⟨rfl, rfl⟩
  clear hL hR hn
  go_wp2
  go_ret
  exact ⟨rfl, (Below.refl _ w).alloc (Nat.le_refl _) _⟩
set_option maxHeartbeats 2000000 in
theorem dcheck_high_pos (neg : Bool) (A : Option Addr) (n c : Nat) (l : List Int) (hn : l.length = n) (e : Int) (hL : ∀ w B, Reads w B 1 A n (u32s l) → Calls Try.prog 96 #[.slice A n c] w fun en w' => en = .returned (.int .i64 0) ∧ w = w') (hz : 0 < n) (h : 1024 < e) (w : World) (hR : Reads w w.heap.size 1 A n (u32s l)) :
    Calls Try.prog 75 #[dy neg A n c e] w fun en w' => en = .returned (.int .i64 8) ∧ Below w.heap.size w w' := by
  have z : ((n : Int) == 0) = false := by simp; omega
  have e1 : decide (e < 0) = false := by simp; omega
  have e2 : decide ((1024 : Int) < e) = true := by simp; omega
  go_enter Try.func75, Try.ntmps75
  go_wp2_with fail
  refine (hL _ w.heap.size (hR.alloc (Nat.le_refl _) _)).mono ?_
  rintro en w1 ⟨rfl, rfl⟩
  clear hL hR hn
  go_wp2
  go_ret
  exact ⟨rfl, (Below.refl _ w).alloc (Nat.le_refl _) _⟩
set_option maxHeartbeats 2000000 in
theorem dcheck_exp (neg : Bool) (A : Option Addr) (n c : Nat) (l : List Int) (hn : l.length = n) (e : Int) (hL : ∀ w B, Reads w B 1 A n (u32s l) → Calls Try.prog 96 #[.slice A n c] w fun en w' => en = .returned (.int .i64 0) ∧ w = w') (hz : n = 0) (h : 0 < e) (h2 : e ≤ 1024) (w : World) (hR : Reads w w.heap.size 1 A n (u32s l)) :
    Calls Try.prog 75 #[dy neg A n c e] w fun en w' => en = .returned (.int .i64 8) ∧ Below w.heap.size w w' := by
  have z : ((n : Int) == 0) = true := by simp; omega
  have e1 : decide (e < 0) = false := by simp; omega
  have e2 : decide ((1024 : Int) < e) = false := by simp; omega
  have e3 : (e == 0) = false := by simp; omega
  have e4 : (e != 0) = true := by simp; omega
  have e5 : decide (0 < e) = true := by simp; omega
  clear hz
  go_enter Try.func75, Try.ntmps75
  go_wp2_with fail
  refine (hL _ w.heap.size (hR.alloc (Nat.le_refl _) _)).mono ?_
  rintro en w1 ⟨rfl, rfl⟩
  clear hL hR hn
  go_wp2
  go_ret
  exact ⟨rfl, (Below.refl _ w).alloc (Nat.le_refl _) _⟩
set_option maxHeartbeats 2000000 in
theorem dcheck_neg (neg : Bool) (A : Option Addr) (n c : Nat) (l : List Int) (hn : l.length = n) (e : Int) (hL : ∀ w B, Reads w B 1 A n (u32s l) → Calls Try.prog 96 #[.slice A n c] w fun en w' => en = .returned (.int .i64 0) ∧ w = w') (hz : n = 0) (h : e = 0) (hg : neg = true) (w : World) (hR : Reads w w.heap.size 1 A n (u32s l)) :
    Calls Try.prog 75 #[dy neg A n c e] w fun en w' => en = .returned (.int .i64 8) ∧ Below w.heap.size w w' := by
  subst hg
  have z : ((n : Int) == 0) = true := by simp; omega
  subst h
  clear hz
  go_enter Try.func75, Try.ntmps75
  go_wp2_with fail
  refine (hL _ w.heap.size (hR.alloc (Nat.le_refl _) _)).mono ?_
  rintro en w1 ⟨rfl, rfl⟩
  clear hL hR hn
  go_wp2
  go_ret
  exact ⟨rfl, (Below.refl _ w).alloc (Nat.le_refl _) _⟩
set_option maxHeartbeats 2000000 in
theorem dcheck_nil (neg : Bool) (A : Option Addr) (n c : Nat) (l : List Int) (hn : l.length = n) (e : Int) (hL : ∀ w B, Reads w B 1 A n (u32s l) → Calls Try.prog 96 #[.slice A n c] w fun en w' => en = .returned (.int .i64 0) ∧ w = w') (hz : n = 0) (h : e = 0) (hg : neg = false) (w : World) (hR : Reads w w.heap.size 1 A n (u32s l)) :
    Calls Try.prog 75 #[dy neg A n c e] w fun en w' => en = .returned (.int .i64 0) ∧ Below w.heap.size w w' := by
  subst hg
  have z : ((n : Int) == 0) = true := by simp; omega
  subst h
  clear hz
  go_enter Try.func75, Try.ntmps75
  go_wp2_with fail
  refine (hL _ w.heap.size (hR.alloc (Nat.le_refl _) _)).mono ?_
  rintro en w1 ⟨rfl, rfl⟩
  clear hL hR hn
  go_wp2
  go_ret
  exact ⟨rfl, (Below.refl _ w).alloc (Nat.le_refl _) _⟩
set_option maxHeartbeats 2000000 in
theorem dcheck_whole (neg : Bool) (A : Option Addr) (n c : Nat) (l : List Int) (hn : l.length = n) (e : Int) (hL : ∀ w B, Reads w B 1 A n (u32s l) → Calls Try.prog 96 #[.slice A n c] w fun en w' => en = .returned (.int .i64 0) ∧ w = w') (hz : 0 < n) (h : e = 0) (w : World) (hR : Reads w w.heap.size 1 A n (u32s l)) :
    Calls Try.prog 75 #[dy neg A n c e] w fun en w' => en = .returned (.int .i64 0) ∧ Below w.heap.size w w' := by
  have z : ((n : Int) == 0) = false := by simp; omega
  subst h
  go_enter Try.func75, Try.ntmps75
  go_wp2_with fail
  refine (hL _ w.heap.size (hR.alloc (Nat.le_refl _) _)).mono ?_
  rintro en w1 ⟨rfl, rfl⟩
  clear hL hR hn
  go_wp2
  go_ret
  exact ⟨rfl, (Below.refl _ w).alloc (Nat.le_refl _) _⟩
set_option maxHeartbeats 2000000 in
theorem dcheck_odd (neg : Bool) (A : Option Addr) (n c : Nat) (l : List Int) (hn : l.length = n) (e : Int) (hL : ∀ w B, Reads w B 1 A n (u32s l) → Calls Try.prog 96 #[.slice A n c] w fun en w' => en = .returned (.int .i64 0) ∧ w = w') (hz : 0 < n) (h : 0 < e) (h2 : e ≤ 1024) (hp : (l.getD 0 0).tmod 2 = 1) (w : World) (hR : Reads w w.heap.size 1 A n (u32s l)) :
    Calls Try.prog 75 #[dy neg A n c e] w fun en w' => en = .returned (.int .i64 0) ∧ Below w.heap.size w w' := by
  have z : ((n : Int) == 0) = false := by simp; omega
  have e1 : decide (e < 0) = false := by simp; omega
  have e2 : decide ((1024 : Int) < e) = false := by simp; omega
  have e3 : (e == 0) = false := by simp; omega
  have e4 : (e != 0) = true := by simp; omega
  have e5 : decide (0 < e) = true := by simp; omega
  obtain ⟨ad, hA, hab, cA⟩ := at_u32 hn (hR.alloc (Nat.le_refl _) (.cells #[.bool neg, .slice A n c, .int .i64 e] 24)) (show 0 < n by omega)
  subst hA
  rw [Addr.add_zero'] at cA
  obtain ⟨x, hx⟩ : ∃ x, l.getD 0 0 = x := ⟨_, rfl⟩
  rw [hx] at cA hp
  have p1 : (x.tmod 2 == 1) = true := by simp; omega
  have p0 : (x.tmod 2 == 0) = false := by simp; omega
  have i2 : (0 : Int) < n := by omega
  clear hx hp
  go_enter Try.func75, Try.ntmps75
  go_wp2_with fail
  refine (hL _ w.heap.size (hR.alloc (Nat.le_refl _) _)).mono ?_
  rintro en w1 ⟨rfl, rfl⟩
  clear hL hR hn
  go_wp2
  go_ret
  exact ⟨rfl, (Below.refl _ w).alloc (Nat.le_refl _) _⟩
set_option maxHeartbeats 2000000 in
theorem dcheck_even (neg : Bool) (A : Option Addr) (n c : Nat) (l : List Int) (hn : l.length = n) (e : Int) (hL : ∀ w B, Reads w B 1 A n (u32s l) → Calls Try.prog 96 #[.slice A n c] w fun en w' => en = .returned (.int .i64 0) ∧ w = w') (hz : 0 < n) (h : 0 < e) (h2 : e ≤ 1024) (hp : (l.getD 0 0).tmod 2 = 0) (w : World) (hR : Reads w w.heap.size 1 A n (u32s l)) :
    Calls Try.prog 75 #[dy neg A n c e] w fun en w' => en = .returned (.int .i64 8) ∧ Below w.heap.size w w' := by
  have z : ((n : Int) == 0) = false := by simp; omega
  have e1 : decide (e < 0) = false := by simp; omega
  have e2 : decide ((1024 : Int) < e) = false := by simp; omega
  have e3 : (e == 0) = false := by simp; omega
  have e4 : (e != 0) = true := by simp; omega
  have e5 : decide (0 < e) = true := by simp; omega
  obtain ⟨ad, hA, hab, cA⟩ := at_u32 hn (hR.alloc (Nat.le_refl _) (.cells #[.bool neg, .slice A n c, .int .i64 e] 24)) (show 0 < n by omega)
  subst hA
  rw [Addr.add_zero'] at cA
  obtain ⟨x, hx⟩ : ∃ x, l.getD 0 0 = x := ⟨_, rfl⟩
  rw [hx] at cA hp
  have p1 : (x.tmod 2 == 1) = false := by simp; omega
  have p0 : (x.tmod 2 == 0) = true := by simp; omega
  have i2 : (0 : Int) < n := by omega
  clear hx hp
  go_enter Try.func75, Try.ntmps75
  go_wp2_with fail
  refine (hL _ w.heap.size (hR.alloc (Nat.le_refl _) _)).mono ?_
  rintro en w1 ⟨rfl, rfl⟩
  clear hL hR hn
  go_wp2
  go_ret
  exact ⟨rfl, (Below.refl _ w).alloc (Nat.le_refl _) _⟩
theorem dcheck_any (neg : Bool) (A : Option Addr) (n c : Nat) (l : List Int) (hn : l.length = n) (hl : ∀ x ∈ l, 0 ≤ x) (e : Int) (w : World) (hR : Reads w w.heap.size 1 A n (u32s l)) :
    Calls Try.prog 75 #[dy neg A n c e] w fun en w' => en = .returned (if mayD neg l e = true then .int .i64 0 else .int .i64 8) ∧ Below w.heap.size w w' := by
  have hL := fun w B h => lcheck_any A n c B l hn w h
  by_cases hm : mayL l = true
  · rw [hm] at hL
    have key : ∀ b, (decide (0 ≤ e ∧ e ≤ 1024 ∧ (l.length = 0 → e = 0 ∧ neg = false) ∧ (l.length ≠ 0 → e = 0 ∨ (l.getD 0 0).tmod 2 = 1))) = b → mayD neg l e = b := fun b hb => by
      unfold mayD
      rw [hm, hb]
      rfl
    rcases Nat.eq_zero_or_pos n with hz | hz
    · by_cases h1 : e < 0
      · rw [key false (decide_eq_false (by omega))]
        exact dcheck_low_zero neg A n c l hn e hL hz h1 w hR
      · by_cases h2 : 1024 < e
        · rw [key false (decide_eq_false (by omega))]
          exact dcheck_high_zero neg A n c l hn e hL hz h2 w hR
        · by_cases h3 : e = 0
          · cases hg : neg
            · subst hg
              rw [key true (decide_eq_true ⟨by omega, by omega, fun _ => ⟨h3, rfl⟩, fun h => absurd (hn.trans hz) h⟩)]
              exact dcheck_nil false A n c l hn e hL hz h3 rfl w hR
            · subst hg
              rw [key false (decide_eq_false (fun h => by have := (h.2.2.1 (hn.trans hz)).2; cases this))]
              exact dcheck_neg true A n c l hn e hL hz h3 rfl w hR
          · rw [key false (decide_eq_false (fun h => h3 (h.2.2.1 (hn.trans hz)).1))]
            exact dcheck_exp neg A n c l hn e hL hz (by omega) (by omega) w hR
    · by_cases h1 : e < 0
      · rw [key false (decide_eq_false (by omega))]
        exact dcheck_low_pos neg A n c l hn e hL hz h1 w hR
      · by_cases h2 : 1024 < e
        · rw [key false (decide_eq_false (by omega))]
          exact dcheck_high_pos neg A n c l hn e hL hz h2 w hR
        · by_cases h3 : e = 0
          · rw [key true (decide_eq_true ⟨by omega, by omega, fun h => absurd h (by omega), fun _ => .inl h3⟩)]
            exact dcheck_whole neg A n c l hn e hL hz h3 w hR
          · have h0 : 0 ≤ l.getD 0 0 := hl _ (by rw [List.getD_eq_getElem?_getD, List.getElem?_eq_getElem (by omega)]; exact List.getElem_mem _)
            by_cases hp : (l.getD 0 0).tmod 2 = 1
            · rw [key true (decide_eq_true ⟨by omega, by omega, fun h => absurd h (by omega), fun _ => .inr hp⟩)]
              exact dcheck_odd neg A n c l hn e hL hz (by omega) (by omega) hp w hR
            · rw [key false (decide_eq_false (fun h => by rcases h.2.2.2 (by omega) with h | h <;> omega))]
              exact dcheck_even neg A n c l hn e hL hz (by omega) (by omega) (by rw [Int.tmod_eq_emod_of_nonneg h0] at hp ⊢; omega) w hR
  · have hm : mayL l = false := by simpa using hm
    rw [hm] at hL
    have : mayD neg l e = false := by unfold mayD; rw [hm]; rfl
    rw [this]
    rcases Nat.eq_zero_or_pos n with hz | hz
    · exact dcheck_lim_zero neg A n c l hn e hL hz w hR
    · exact dcheck_lim_pos neg A n c l hn e hL hz w hR
end Go.Proofs.Ytjmhefkmpfkpbaa
