/- Limb's Door: the reference's shifts, bits, lowest bits. -/
import Derived.Test.YtaklmkjldmbleaaDoorI
import Derived.Test.YtaklmkjldmbleaaDoorY
namespace Go.Proofs.YtaklmkjldmbleaaDoor
open Go.ChangeShapes Go.WideShapes Go.ChangeAt Go.RowKit
set_option linter.unusedSimpArgs false
set_option linter.unusedVariables false
theorem dropv {B : Nat} (hB : 0 < B) {a : List Nat} {q : Nat} (ha : ∀ x ∈ a, x < B) : val B (a.drop q) = val B a / B ^ q := by
  rcases Nat.lt_or_ge a.length q with h | h
  · rw [List.drop_eq_nil_of_le (by omega), val_nil, Nat.div_eq_of_lt]
    exact Nat.lt_of_lt_of_le (val_lt ha) (Nat.pow_le_pow_right hB (by omega))
  · rw [val_drop_split B a q, Nat.min_eq_left h, Nat.add_comm, Nat.mul_add_div (Nat.pow_pos hB), Nat.div_eq_of_lt, Nat.add_zero]
    have := val_lt (l := a.take q) (fun x hx => ha x (List.mem_of_mem_take hx))
    rwa [List.length_take, Nat.min_eq_left h] at this
set_option maxHeartbeats 4000000 in
theorem over2_any (A : Option Addr) (n c k : Nat) (a : List Nat) (hn : a.length = n) (hm : n ≤ 10000) (hnc : n ≤ c) (m : Nat) (hL : (a.drop k).length = m) (w : World) (hR : Reads w w.heap.size 1 A n (ints .u8 a)) :
    Calls Tryd.prog 39 #[.slice A n c, .int .i64 (k : Int)] w fun en w' => ∃ Ao co, en = .returned (.slice Ao m co) ∧ m ≤ co ∧ Reads w' w'.heap.size 1 Ao m (ints .u8 (a.drop k)) ∧ Below w.heap.size w w' := by
  by_cases hkn : n ≤ k
  · have e : a.drop k = [] := List.drop_eq_nil_of_le (by omega)
    rw [e] at hL ⊢
    have hm0 : 0 = m := hL
    subst hm0
    have t1 : decide ((n : Int) ≤ k) = true := decide_eq_true (by omega)
    have t2 : decide (n ≤ k) = true := decide_eq_true hkn
    clear hR hL hn e
    go_enter Tryd.func39, Tryd.ntmps39
    go_wp2
    go_ret
    exact ⟨none, 0, rfl, Nat.le_refl _, Reads.none_, Below.refl _ _⟩
  · obtain ⟨i0, hi0, hz0, hz1, hz2⟩ := info_parts infoU8
    have t1 : decide ((n : Int) ≤ k) = false := decide_eq_false (by omega)
    have t2 : decide (n ≤ k) = false := decide_eq_false hkn
    obtain ⟨ad, rfl, _, _⟩ := hR.2 (by omega)
    have hR2 := hR.cut (k := k) (cap := c) (by omega) hnc
    rw [if_neg (by omega), Nat.mul_one] at hR2
    rw [show (ints IntKind.u8 a).drop k = ints .u8 (a.drop k) by simp [ints]] at hR2
    have hmn : n - k = m := by rw [← hL, List.length_drop, hn]
    rw [hmn] at hR2
    obtain ⟨a', hae⟩ : ∃ a', a.drop k = a' := ⟨_, rfl⟩
    rw [hae] at hR2 ⊢
    have i1 : (0 : Int) ≤ k := by omega
    have i2 : (k : Int) ≤ n := by omega
    have i3 : (n : Int) - k = m := by omega
    have hm3 : m ≤ 10000 := by omega
    clear hR hn hL hae
    go_enter Tryd.func39, Tryd.ntmps39
    go_wp2_with (at_builtin; refine wpList_append_any _ rfl (.tmp 9) (.tmp 12) 51 rfl w.heap.size 5 i0 _ 1 1 Tryd.underlying51 hi0 hz0 hz1 hz2 rfl (by omega) (.slice (some ⟨w.heap.size, 0, none⟩) 0 0) 0 [] rfl (owns_new w w.heap.size (Nat.le_refl _) [] 5 0 rfl (Nat.zero_le _)) w.heap.size (some (ad.add k)) m (c - k) (ints .u8 a') rfl (hR2.alloc (Nat.le_refl _) _) (ints_one _ _) (by unfold maxLen; omega) (by omega) (by rw [World.size_alloc]; omega) ?_; intro v4 w4 ho4 hg4 _; rw [Nat.zero_add, List.nil_append] at ho4; obtain ⟨Ao, co, rfl, hco, ro⟩ := own_slice ho4)
    go_ret
    refine ⟨Ao, co, rfl, hco, ro, Below.grown ((Below.refl w.heap.size w).alloc (Nat.le_refl _) _) hg4 (by rw [World.size_alloc]; omega) ?_⟩
    intro q hq
    simp [Value.ownBlock] at hq
    omega
section
variable (A : Option Addr) (n c : Nat) (a : List Nat) (hn : a.length = n) (ha : ∀ x ∈ a, x < 4294967296) (w : World) (hR : Reads w w.heap.size 1 A n (ints .u32 a))
include hn ha hR in
set_option maxHeartbeats 4000000 in
theorem rbits_any : Calls Tryd.prog 14 #[.slice A n c] w (CPost w (bitsS a)) := by
  have h1 := rmay_any A n c w.heap.size a hn w hR
  cases hba : mayB a
  · rw [show bitsS a = (0, 8) by unfold bitsS; rw [hba]; rfl]
    rw [hba] at h1
    clear hR ha hn hba
    go_enter Tryd.func14, Tryd.ntmps14
    go_wp2_with (go_at_call 32; (with_reducible refine h1.mono ?_); rintro e w' ⟨rfl, rfl⟩)
    go_ret2
    exact ⟨rfl, Below.refl _ _⟩
  rw [show bitsS a = (((bl (val 4294967296 a) : Nat) : Int), 0) by unfold bitsS; rw [hba]; rfl]
  rw [hba] at h1
  obtain ⟨m, hm⟩ : ∃ m, bl (val 4294967296 a) = m := ⟨_, rfl⟩
  have hd := digits_any A n c a hn (by have := mayB_len hba; omega) ha m hm w hR
  rw [hm]
  clear hR ha hn hba hm
  go_enter Tryd.func14, Tryd.ntmps14
  go_wp2_with (first | (go_at_call 32; (with_reducible refine h1.mono ?_); rintro e w' ⟨rfl, rfl⟩) | fail)
  refine hd.mono ?_
  rintro e w1 ⟨A1, c1, rfl, hc1, r1, b1⟩
  go_wp2
  go_ret2
  exact ⟨rfl, b1⟩
include hn ha hR in
set_option maxHeartbeats 4000000 in
theorem rright_any (k : Int) (hk64 : k < 9223372036854775808) : Calls Tryd.prog 12 #[.slice A n c, .int .i64 k] w (TRead w (rightS a k)) := by
  have h1 := rmay_any A n c w.heap.size a hn w hR
  cases hba : mayB a
  · rw [show rightS a k = ([], 8) by unfold rightS; rw [hba]; rfl]
    rw [hba] at h1
    clear hR ha hn hba
    go_enter Tryd.func12, Tryd.ntmps12
    go_wp2_with (go_at_call 32; (with_reducible refine h1.mono ?_); rintro e w' ⟨rfl, rfl⟩)
    go_ret2
    exact tnil (Below.refl _ _) 8
  rw [hba] at h1
  by_cases hk0 : k < 0
  · rw [show rightS a k = ([], 2) by unfold rightS; rw [if_pos hba, if_pos hk0]]
    have t1 : decide (k < 0) = true := decide_eq_true hk0
    clear hR ha hn hba
    go_enter Tryd.func12, Tryd.ntmps12
    go_wp2_with (go_at_call 32; (with_reducible refine h1.mono ?_); rintro e w' ⟨rfl, rfl⟩)
    go_ret2
    exact tnil (Below.refl _ _) 2
  have t1 : decide (k < 0) = false := decide_eq_false hk0
  rw [show rightS a k = (dig 4294967296 (val 4294967296 a / 2 ^ k.toNat), 0) by unfold rightS; rw [if_pos hba, if_neg hk0]]
  obtain ⟨k, rfl⟩ : ∃ j : Nat, k = (j : Int) := ⟨k.toNat, by omega⟩
  rw [Int.toNat_natCast]
  obtain ⟨m, hm⟩ : ∃ m, (dig 2 (val 4294967296 a)).length = m := ⟨_, rfl⟩
  have lm : m ≤ 1280 := by rw [← hm]; exact dig2_len (mayB_len hba) ha
  have hd := digits_any A n c a hn (by have := mayB_len hba; omega) ha m hm w hR
  obtain ⟨v, hv⟩ : ∃ v, val 4294967296 a = v := ⟨_, rfl⟩
  rw [hv] at hd hm ⊢
  have gm := Lib.hid hm
  clear hR ha hn hba hm hv
  go_enter Tryd.func12, Tryd.ntmps12
  go_wp2_with (first | (go_at_call 32; (with_reducible refine h1.mono ?_); rintro e w' ⟨rfl, rfl⟩) | fail)
  refine hd.mono ?_
  rintro e w1 ⟨A1, c1, rfl, hc1, r1, b1⟩
  clear hd h1
  obtain ⟨m2, hm2⟩ : ∃ m, ((dig 2 v).drop k).length = m := ⟨_, rfl⟩
  have ho := over2_any A1 m c1 k (dig 2 v) gm.out (by omega) hc1 m2 hm2 w1 r1
  have dl : ∀ x ∈ (dig 2 v).drop k, x < 2 := fun x hx => dig_lt (by omega) v x (List.mem_of_mem_drop hx)
  have dv : val 2 ((dig 2 v).drop k) = v / 2 ^ k := by rw [dropv (by omega) (dig_lt (by omega) v), val_dig (by omega)]
  have lm2 : m2 ≤ 1280 := by rw [← hm2, List.length_drop, gm.out]; omega
  obtain ⟨L, hLe⟩ : ∃ L, (dig 2 v).drop k = L := ⟨_, rfl⟩
  rw [hLe] at ho hm2 dl dv
  have gm2 := Lib.hid hm2
  have gdl := Lib.hid dl
  have gdv := Lib.hid dv
  clear r1 hLe hm2 dl dv
  go_wp2_with fail
  refine ho.mono ?_
  rintro e w2 ⟨A3, c3, rfl, hc3, r3, b2⟩
  have b3 := b1.trans (b2.mono b1.size)
  clear ho b1 b2
  obtain ⟨m4, hm4⟩ : ∃ m, (dig 4294967296 (v / 2 ^ k)).length = m := ⟨_, rfl⟩
  have hl := limbs_any A3 m2 c3 L gm2.out (by omega) hc3 gdl.out m4 (by rw [gdv.out]; exact hm4) w2 r3
  rw [gdv.out] at hl
  have gm4 := Lib.hid hm4
  clear r3 hm4
  go_wp2_with fail
  refine hl.mono ?_
  rintro e w3 ⟨A5, c5, rfl, hc5, r5, b4⟩
  go_wp2
  go_ret2
  exact ⟨A5, c5, by simp only [gm4.out]; rfl, by simp only [gm4.out]; exact hc5, by simp only [gm4.out]; exact r5, b3.trans (b4.mono b3.size)⟩
include hn ha hR in
set_option maxHeartbeats 4000000 in
theorem rleft_any (k : Int) : Calls Tryd.prog 10 #[.slice A n c, .int .i64 k] w (TRead w (leftS a k)) := by
  have h1 := rmay_any A n c w.heap.size a hn w hR
  cases hba : mayB a
  · rw [show leftS a k = ([], 8) by unfold leftS; rw [hba]; rfl]
    rw [hba] at h1
    clear hR ha hn hba
    go_enter Tryd.func10, Tryd.ntmps10
    go_wp2_with (go_at_call 32; (with_reducible refine h1.mono ?_); rintro e w' ⟨rfl, rfl⟩)
    go_ret2
    exact tnil (Below.refl _ _) 8
  rw [hba] at h1
  by_cases hk0 : k < 0
  · rw [show leftS a k = ([], 2) by unfold leftS; rw [if_pos hba, if_pos hk0]]
    have t1 : decide (k < 0) = true := decide_eq_true hk0
    clear hR ha hn hba
    go_enter Tryd.func10, Tryd.ntmps10
    go_wp2_with (go_at_call 32; (with_reducible refine h1.mono ?_); rintro e w' ⟨rfl, rfl⟩)
    go_ret2
    exact tnil (Below.refl _ _) 2
  have t1 : decide (k < 0) = false := decide_eq_false hk0
  rcases Nat.eq_zero_or_pos n with h0 | h0
  · rw [show leftS a k = ([], 0) by unfold leftS; rw [if_pos hba, if_neg hk0, if_pos (by omega)]]
    subst h0
    clear hR ha hn hba
    go_enter Tryd.func10, Tryd.ntmps10
    go_wp2_with (go_at_call 32; (with_reducible refine h1.mono ?_); rintro e w' ⟨rfl, rfl⟩)
    go_ret2
    exact tnil (Below.refl _ _) 0
  have s2 : ((n : Int) == 0) = false := by (simp <;> omega)
  have t3 : (n == 0) = false := by (simp <;> omega)
  by_cases hk1 : 1280 < k
  · rw [show leftS a k = ([], 10) by unfold leftS; rw [if_pos hba, if_neg hk0, if_neg (by omega), if_pos hk1]]
    have t4 : decide (1280 < k) = true := decide_eq_true hk1
    clear hR ha hn hba
    go_enter Tryd.func10, Tryd.ntmps10
    go_wp2_with (go_at_call 32; (with_reducible refine h1.mono ?_); rintro e w' ⟨rfl, rfl⟩)
    go_ret2
    exact tnil (Below.refl _ _) 10
  have t4 : decide (1280 < k) = false := decide_eq_false hk1
  rw [show leftS a k = overS (val 4294967296 a * 2 ^ k.toNat) by unfold leftS; rw [if_pos hba, if_neg hk0, if_neg (by omega), if_neg hk1]]
  obtain ⟨k, rfl⟩ : ∃ j : Nat, k = (j : Int) := ⟨k.toNat, by omega⟩
  rw [Int.toNat_natCast]
  obtain ⟨m, hm⟩ : ∃ m, (dig 2 (val 4294967296 a)).length = m := ⟨_, rfl⟩
  have lm : m ≤ 1280 := by rw [← hm]; exact dig2_len (mayB_len hba) ha
  have hd := digits_any A n c a hn (by have := mayB_len hba; omega) ha m hm w hR
  obtain ⟨v, hv⟩ : ∃ v, val 4294967296 a = v := ⟨_, rfl⟩
  rw [hv] at hd hm ⊢
  have gm := Lib.hid hm
  clear hR ha hn hba hm hv
  go_enter Tryd.func10, Tryd.ntmps10
  go_wp2_with (first | (go_at_call 32; (with_reducible refine h1.mono ?_); rintro e w' ⟨rfl, rfl⟩) | fail)
  refine hd.mono ?_
  rintro e w1 ⟨A1, c1, rfl, hc1, r1, b1⟩
  clear hd h1
  obtain ⟨m2, hm2⟩ : ∃ m, (t2 (dig 2 v) k).length = m := ⟨_, rfl⟩
  have ho := times2_any A1 m c1 k (dig 2 v) gm.out (by omega) (by omega) m2 hm2 w1 r1
  have dl := t2_lt (a := dig 2 v) (dig_lt (by omega) v) k
  have dv : val 2 (t2 (dig 2 v) k) = v * 2 ^ k := by rw [t2_val, val_dig (by omega)]
  have lm2 : m2 ≤ 2600 := by rw [← hm2]; have := t2_len (dig 2 v) k; rw [gm.out] at this; omega
  obtain ⟨L, hLe⟩ : ∃ L, t2 (dig 2 v) k = L := ⟨_, rfl⟩
  rw [hLe] at ho hm2 dl dv
  have gm2 := Lib.hid hm2
  have gdl := Lib.hid dl
  have gdv := Lib.hid dv
  clear r1 hLe hm2 dl dv
  go_wp2_with fail
  refine ho.mono ?_
  rintro e w2 ⟨A3, c3, rfl, hc3, r3, b2⟩
  have b3 := b1.trans (b2.mono b1.size)
  clear ho b1 b2
  have hl := rtold_any A3 m2 c3 (v * 2 ^ k) L gm2.out (by omega) hc3 gdl.out gdv.out w2 r3
  clear r3 gm2 gdl gdv
  go_wp2_with fail
  refine hl.mono ?_
  rintro e w3 ⟨A5, c5, rfl, hc5, r5, b4⟩
  go_wp2
  go_ret2
  exact ⟨A5, c5, rfl, hc5, r5, b3.trans (b4.mono b3.size)⟩
end
theorem lowb_at {L : List Nat} {v k : Nat} (hv : val 2 L = v) (h0 : ∀ j, j < k → L.getD j 0 = 0) (hk : k < L.length) (hx : L.getD k 0 = 1) : lowN v = k := by
  have hd : L.drop k = 1 :: L.drop (k + 1) := by
    rw [List.drop_eq_getElem_cons hk]
    congr 1
    rw [← hx, List.getD_eq_getElem?_getD, List.getElem?_eq_getElem hk]; rfl
  refine lowN_eq (m := val 2 (L.drop (k + 1))) ?_
  rw [← hv, val_drop_split 2 L k, hd, val_cons, Nat.min_eq_left (by omega), val_zero, Nat.zero_add, Nat.add_comm 1]
  intro z hz
  obtain ⟨i, hi, rfl⟩ := List.mem_iff_getElem.1 hz
  have hi' : i < k := by rw [List.length_take] at hi; omega
  have := h0 i hi'
  rw [List.getD_eq_getElem?_getD, List.getElem?_eq_getElem (by omega)] at this
  rw [List.getElem_take]
  exact this
theorem lowb_none {L : List Nat} {v : Nat} (hv : val 2 L = v) (h0 : ∀ j, j < L.length → L.getD j 0 = 0) : lowN v = 0 := by
  rw [← hv, val_zero]
  · rfl
  · intro z hz
    obtain ⟨i, hi, rfl⟩ := List.mem_iff_getElem.1 hz
    have := h0 i hi
    rw [List.getD_eq_getElem?_getD, List.getElem?_eq_getElem hi] at this
    exact this
section
variable (A : Option Addr) (n c : Nat) (a : List Nat) (hn : a.length = n) (ha : ∀ x ∈ a, x < 4294967296) (w : World) (hR : Reads w w.heap.size 1 A n (ints .u32 a))
include hn ha hR in
set_option maxHeartbeats 4000000 in
theorem rlow_any : Calls Tryd.prog 16 #[.slice A n c] w (CPost w (lowS a)) := by
  have h1 := rmay_any A n c w.heap.size a hn w hR
  cases hba : mayB a
  · rw [show lowS a = (0, 8) by unfold lowS; rw [hba]; rfl]
    rw [hba] at h1
    clear hR ha hn hba
    go_enter Tryd.func16, Tryd.ntmps16
    go_wp2_with (go_at_call 32; (with_reducible refine h1.mono ?_); rintro e w' ⟨rfl, rfl⟩)
    go_ret2
    exact ⟨rfl, Below.refl _ _⟩
  rw [show lowS a = (((lowN (val 4294967296 a) : Nat) : Int), 0) by unfold lowS; rw [hba]; rfl]
  rw [hba] at h1
  obtain ⟨m, hm⟩ : ∃ m, (dig 2 (val 4294967296 a)).length = m := ⟨_, rfl⟩
  have lm : m ≤ 1280 := by rw [← hm]; exact dig2_len (mayB_len hba) ha
  have hd := digits_any A n c a hn (by have := mayB_len hba; omega) ha m hm w hR
  obtain ⟨v, hv⟩ : ∃ v, val 4294967296 a = v := ⟨_, rfl⟩
  rw [hv] at hd hm ⊢
  obtain ⟨L, hL⟩ : ∃ L, dig 2 v = L := ⟨_, rfl⟩
  have gv : Hid (val 2 L = v) := Lib.hid (by rw [← hL]; exact val_dig (by omega) v)
  have hLb : ∀ x ∈ L, x < 2 := by rw [← hL]; exact dig_lt (by omega) v
  rw [hL] at hm
  obtain ⟨N, hN⟩ : ∃ N, lowN v = N := ⟨_, rfl⟩
  rw [hN]
  have gm := Lib.hid hm
  have gN := Lib.hid hN
  have gL := Lib.hid hL
  clear hR ha hn hba hm hv hN hL
  go_enter Tryd.func16, Tryd.ntmps16
  go_wp2_with (first | (go_at_call 32; (with_reducible refine h1.mono ?_); rintro e w' ⟨rfl, rfl⟩) | fail)
  refine hd.mono ?_
  rintro e w1 ⟨A1, c1, rfl, hc1, r1, b1⟩
  rw [gL.out] at r1
  clear hd h1
  go_wp2
  go_loopw [5] (fun i wr => ∃ k : Nat, k ≤ m ∧ i = .int .i64 (k : Int) ∧ Hid (∀ j, j < k → L.getD j 0 = 0) ∧ wr = w1) (fun i _ => m - (intOf i).toNat)
  case atStart => exact ⟨0, Nat.zero_le _, rfl, Lib.hid (fun j h => by omega), rfl⟩
  case round =>
    obtain ⟨k, hk, rfl, h0, rfl⟩ := hrel
    by_cases hlt : k < m
    · obtain ⟨ad, rfl, hab, cA⟩ := at_ints gm.out r1 hlt
      have xa := getD_lt (B := 2) (by omega) hLb k
      obtain ⟨x, hx⟩ : ∃ x, L.getD k 0 = x := ⟨_, rfl⟩
      rw [hx] at cA xa
      have i1 : (0 : Int) ≤ k := by omega
      have i2 : (k : Int) < m := by omega
      by_cases hx0 : x = 0
      · subst hx0
        have h0' : Hid (∀ j, j < k + 1 → L.getD j 0 = 0) := Lib.hid (fun j hj => by
          rcases Nat.lt_or_ge j k with h | h
          · exact h0.out j h
          · rw [show j = k by omega]; exact hx)
        clear hx h0 hLb xa
        go_wp2
        go_roundw
        case rel => exact ⟨k + 1, by omega, by go_num, h0', by first | rfl | trivial⟩
        case measure => simp [intOf] <;> omega
      · obtain rfl : x = 1 := by omega
        obtain rfl : N = k := by rw [← gN.out]; exact lowb_at gv.out h0.out (by rw [gm.out]; exact hlt) hx
        clear hx h0 hLb xa gN
        go_wp2
        go_ret2
        exact ⟨rfl, b1⟩
    · obtain rfl : k = m := by omega
      obtain rfl : N = 0 := by rw [← gN.out]; exact lowb_none gv.out (fun j hj => h0.out j (by rw [← gm.out]; exact hj))
      clear h0 hLb gN
      go_wp2
      go_ret2
      exact ⟨rfl, b1⟩
end
end Go.Proofs.YtaklmkjldmbleaaDoor
