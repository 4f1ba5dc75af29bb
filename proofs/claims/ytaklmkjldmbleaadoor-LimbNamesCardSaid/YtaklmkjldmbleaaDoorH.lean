/- Limb's Door: the program's lowest bits and shifts. -/
import Derived.Test.YtaklmkjldmbleaaDoorF
import Derived.RegionTactic
import Derived.BigRegion
import Derived.BigQuiet
namespace Go.Proofs.YtaklmkjldmbleaaDoor
open Go.ChangeShapes Go.WideShapes Go.ChangeAt Go.RowKit
set_option linter.unusedSimpArgs false
set_option linter.unusedVariables false
def lowS (a : List Nat) : Int × Int := if mayB a = true then (((lowN (val 4294967296 a) : Nat) : Int), 0) else (0, 8)
def leftS (a : List Nat) (k : Int) : List Nat × Int := if mayB a = true then (if k < 0 then ([], 2) else if a.length = 0 then ([], 0) else if 1280 < k then ([], 10) else overS (val 4294967296 a * 2 ^ k.toNat)) else ([], 8)
def rightS (a : List Nat) (k : Int) : List Nat × Int := if mayB a = true then (if k < 0 then ([], 2) else (dig 4294967296 (val 4294967296 a / 2 ^ k.toNat), 0)) else ([], 8)
section
variable (A : Option Addr) (n c : Nat) (a : List Nat) (hn : a.length = n) (ha : ∀ x ∈ a, x < 4294967296) (w : World) (hR : Reads w w.heap.size 1 A n (ints .u32 a))
include hn ha hR in
set_option maxHeartbeats 4000000 in
theorem low_any (hT : Tab w) : Calls Tryd.prog 15 #[.slice A n c] w (CPost w (lowS a)) := by
  have hB := (Below.refl w.heap.size w).alloc (Nat.le_refl _) (.cells #[.slice A n c] 22)
  cases hbo : mayB a
  · have hq := ask1 A n c a hn w hR 8 (by rw [hbo]; rfl)
    rw [show lowS a = (0, 8) by unfold lowS; rw [hbo]; rfl]
    clear ha hn hR hbo hT
    go_enter Tryd.func15, Tryd.ntmps15
    go_wp2_with (go_at_call 29; (with_reducible refine hq.mono ?_); rintro e w1 ⟨rfl, rfl⟩)
    go_ret2
    exact ⟨rfl, hB⟩
  have hq := ask1 A n c a hn w hR 0 (by rw [hbo]; rfl)
  rw [show lowS a = (((lowN (val 4294967296 a) : Nat) : Int), 0) by unfold lowS; rw [hbo]; rfl]
  obtain ⟨W1, hW1⟩ : ∃ W, W = w.alloc (.cells #[.slice A n c] 22) := ⟨_, rfl⟩
  rw [← hW1] at hB hq
  have hRa := hR.below hB
  have hT1 := hT.below hB (hT.2)
  have gn := Lib.hid hn
  have n40 : n ≤ 40 := by have := mayB_len hbo; omega
  clear hn hR hbo hT
  go_enter Tryd.func15, Tryd.ntmps15
  go_wp2_with fail
  rw [← hW1]
  clear hW1
  refine hq.mono ?_
  rintro e w1 ⟨rfl, rfl⟩
  clear hq
  go_wp2
  go_loopw [15] (fun i wr => ∃ k : Nat, k ≤ n ∧ i = .int .i64 (k : Int) ∧ Hid (∀ j, j < k → a.getD j 0 = 0) ∧ wr = W1) (fun i _ => n - (intOf i).toNat)
  case atStart => exact ⟨0, Nat.zero_le _, rfl, Lib.hid (fun j h => by omega), rfl⟩
  case round =>
    obtain ⟨k, hk, rfl, h0, rfl⟩ := hrel
    by_cases hlt : k < n
    · obtain ⟨ad, rfl, hab, cA⟩ := at_ints gn.out hRa hlt
      have xa := getD_lt (B := 4294967296) (by omega) ha k
      obtain ⟨x, hx⟩ : ∃ x, a.getD k 0 = x := ⟨_, rfl⟩
      rw [hx] at cA xa
      have i1 : (0 : Int) ≤ k := by omega
      have i2 : (k : Int) < n := by omega
      by_cases hx0 : x = 0
      · subst hx0
        have h0' : Hid (∀ j, j < k + 1 → a.getD j 0 = 0) := Lib.hid (fun j hj => by
          rcases Nat.lt_or_ge j k with h | h
          · exact h0.out j h
          · rw [show j = k by omega]; exact hx)
        clear hx h0 hRa ha xa
        go_wp2
        go_roundw
        case rel => exact ⟨k + 1, by omega, by go_num, h0', by first | rfl | trivial⟩
        case measure => simp [intOf] <;> omega
      · have hz := tz_any x xa hx0 wr hT1
        have hl := low_at h0.out (by rw [gn.out]; exact hlt) hx hx0 xa
        have t1 : ((x : Int) == 0) = false := by (simp <;> omega)
        have hcl : Lib.ctz 32 x < 32 := (Lib.lowest_bit 32 x hx0 xa).2
        obtain ⟨t, ht⟩ : ∃ t, Lib.ctz 32 x = t := ⟨_, rfl⟩
        rw [ht] at hz hl hcl
        rw [hl]
        clear hx h0 hRa ha ht hl
        go_wp2_with (go_at_call 41; (with_reducible refine hz.mono ?_); rintro e w1 ⟨rfl, rfl⟩)
        go_ret2
        refine ⟨?_, hB⟩
        first | rfl | (congr 3; push_cast; rfl)
    · obtain rfl : k = n := by omega
      have hl : lowN (val 4294967296 a) = 0 := low_none (fun j hj => h0.out j (by rw [← gn.out]; exact hj))
      clear h0 hRa ha
      go_wp2
      go_ret2
      refine ⟨?_, hB⟩
      rw [hl]
      rfl
end
set_option maxHeartbeats 4000000 in
theorem Left_any (A : Option Addr) (n c : Nat) (a : List Nat) (k : Int) (hn : a.length = n) (ha : ∀ x ∈ a, x < 4294967296) (w : World) (hR : Reads w w.heap.size 1 A n (ints .u32 a)) :
    Calls Tryd.prog 9 #[.slice A n c, .int .i64 k] w (TOwn w (leftS a k)) := by
  have hB := (Below.refl w.heap.size w).alloc (Nat.le_refl _) (.cells #[.slice A n c] 22)
  cases hbo : mayB a
  · have hq := ask1 A n c a hn w hR 8 (by rw [hbo]; rfl)
    rw [show leftS a k = ([], 8) by unfold leftS; rw [hbo]; rfl]
    clear ha hn hR hbo
    go_enter Tryd.func9, Tryd.ntmps9
    go_wp2_with (go_at_call 29; (with_reducible refine hq.mono ?_); rintro e w1 ⟨rfl, rfl⟩)
    go_ret2
    exact onil hB 8
  have hq := ask1 A n c a hn w hR 0 (by rw [hbo]; rfl)
  by_cases hk0 : k < 0
  · rw [show leftS a k = ([], 2) by unfold leftS; rw [if_pos hbo, if_pos hk0]]
    have t1 : decide (k < 0) = true := decide_eq_true hk0
    clear ha hn hR hbo
    go_enter Tryd.func9, Tryd.ntmps9
    go_wp2_with (go_at_call 29; (with_reducible refine hq.mono ?_); rintro e w1 ⟨rfl, rfl⟩)
    go_ret2
    exact onil hB 2
  have t1 : decide (k < 0) = false := decide_eq_false hk0
  rcases Nat.eq_zero_or_pos n with h0 | h0
  · rw [show leftS a k = ([], 0) by unfold leftS; rw [if_pos hbo, if_neg hk0, if_pos (by omega)]]
    subst h0
    clear ha hn hR hbo
    go_enter Tryd.func9, Tryd.ntmps9
    go_wp2_with (go_at_call 29; (with_reducible refine hq.mono ?_); rintro e w1 ⟨rfl, rfl⟩)
    go_ret2
    exact onil hB 0
  have t2 : ((n : Int) == 0) = false := by (simp <;> omega)
  have t3 : (n == 0) = false := by (simp <;> omega)
  by_cases hk1 : 1280 < k
  · rw [show leftS a k = ([], 10) by unfold leftS; rw [if_pos hbo, if_neg hk0, if_neg (by omega), if_pos hk1]]
    have t4 : decide (1280 < k) = true := decide_eq_true hk1
    clear ha hn hR hbo
    go_enter Tryd.func9, Tryd.ntmps9
    go_wp2_with (go_at_call 29; (with_reducible refine hq.mono ?_); rintro e w1 ⟨rfl, rfl⟩)
    go_ret2
    exact onil hB 10
  have t4 : decide (1280 < k) = false := decide_eq_false hk1
  rw [show leftS a k = overS (val 4294967296 a * 2 ^ k.toNat) by unfold leftS; rw [if_pos hbo, if_neg hk0, if_neg (by omega), if_neg hk1]]
  obtain ⟨k, rfl⟩ : ∃ j : Nat, k = (j : Int) := ⟨k.toNat, by omega⟩
  rw [Int.toNat_natCast]
  have hl40 := mayB_len hbo
  obtain ⟨N, hN⟩ : ∃ N, val 4294967296 a * 2 ^ k = N := ⟨_, rfl⟩
  obtain ⟨m, hm⟩ : ∃ m, (dig 4294967296 N).length = m := ⟨_, rfl⟩
  have hm81 : m ≤ 80 := by
    rw [← hm]
    refine dig_len_le (by omega) ?_
    rw [← hN, pow32]
    have h1 := val_lt ha
    rw [pow32] at h1
    refine Nat.lt_of_lt_of_le ((Nat.mul_lt_mul_right (Nat.pow_pos (by omega))).2 h1) ?_
    rw [← Nat.pow_add]
    obtain ⟨E, hE⟩ : ∃ E, 32 * 80 = E := ⟨_, rfl⟩
    rw [hE]
    exact Nat.pow_le_pow_right (by omega) (by omega)
  obtain ⟨W1, hW1⟩ : ∃ W, W = w.alloc (.cells #[.slice A n c] 22) := ⟨_, rfl⟩
  rw [← hW1] at hB hq
  have hlf := left_any A n c k a hn (by omega) (by omega) ha m (by rw [hN]; exact hm) W1 ((hR.below hB).more hB.size)
  rw [hN] at hlf ⊢
  have gm := Lib.hid hm
  clear hN hR hn hbo ha hl40 hm
  by_cases h40 : m ≤ 40
  · rw [show overS N = (dig 4294967296 N, 0) by unfold overS; rw [if_pos (by rw [gm.out]; exact h40)]]
    go_enter Tryd.func9, Tryd.ntmps9
    go_wp2_with fail
    rw [← hW1]
    clear hW1
    refine hq.mono ?_
    rintro e w1 ⟨rfl, rfl⟩
    clear hq
    go_wp2_with fail
    refine hlf.mono ?_
    rintro e w2 ⟨Ao, rfl, hO, hb2⟩
    have ht := told_ok Ao m m w2.heap.size m (dig 4294967296 N) gm.out (by omega) (Nat.le_refl _) (dig_lt (by omega) _) (by rw [val_dig (by omega)]; exact gm.out) h40 w2 hO.reads
    clear hlf
    go_wp2_with (go_at_call 30; (with_reducible refine ht.mono ?_); rintro e w1 ⟨rfl, rfl⟩)
    go_ret2
    exact ⟨Ao, m, by simp only [gm.out]; rfl, by simp only [gm.out]; exact Nat.le_refl _, by simp only [gm.out]; exact hO.base_le hB.size, hB.trans (hb2.mono hB.size)⟩
  · rw [show overS N = ([], 10) by unfold overS; rw [if_neg (by rw [gm.out]; exact h40)]]
    go_enter Tryd.func9, Tryd.ntmps9
    go_wp2_with fail
    rw [← hW1]
    clear hW1
    refine hq.mono ?_
    rintro e w1 ⟨rfl, rfl⟩
    clear hq
    go_wp2_with fail
    refine hlf.mono ?_
    rintro e w2 ⟨Ao, rfl, hO, hb2⟩
    have ht := told_over Ao m m w2.heap.size m (dig 4294967296 N) gm.out (by omega) (Nat.le_refl _) (dig_lt (by omega) _) (by rw [val_dig (by omega)]; exact gm.out) (by omega) w2 hO.reads
    clear hlf
    go_wp2_with (go_at_call 30; (with_reducible refine ht.mono ?_); rintro e w1 ⟨rfl, rfl⟩)
    go_ret2
    exact onil (hB.trans (hb2.mono hB.size)) 10
end Go.Proofs.YtaklmkjldmbleaaDoor
