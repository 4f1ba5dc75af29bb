/- Limb: the reference's answers: errors, a number's limbs, how two stand, sums and differences. -/
import Derived.Test.YtaklmkjldmbleaaS
namespace Go.Proofs.Ytaklmkjldmbleaa
open Go.ChangeShapes Go.WideShapes Go.ChangeAt Go.RowKit
set_option linter.unusedSimpArgs false
set_option linter.unusedVariables false
/-- Limbs of a number, if they are not too many. -/
def overS (N : Nat) : List Nat × Int := if (dig 4294967296 N).length ≤ 40 then (dig 4294967296 N, 0) else ([], 10)
def TRead (w : World) (R : List Nat × Int) (en : Ending) (w' : World) : Prop :=
  ∃ A c, en = .returned (.tuple #[.slice A R.1.length c, .int .i64 R.2]) ∧ R.1.length ≤ c ∧ Reads w' w'.heap.size 1 A R.1.length (ints .u32 R.1) ∧ Below w.heap.size w w'
theorem tnil {w w' : World} (hb : Below w.heap.size w w') (e : Int) : TRead w ([], e) (.returned (.tuple #[.slice none 0 0, .int .i64 e])) w' := ⟨none, 0, rfl, Nat.le_refl _, Reads.none_, hb⟩
set_option maxHeartbeats 2000000 in
theorem rtold_any (A : Option Addr) (n c N : Nat) (a : List Nat) (hn : a.length = n) (hm : n ≤ 20000) (hnc : n ≤ c) (ha : ∀ x ∈ a, x < 2) (hv : val 2 a = N) (w : World) (hR : Reads w w.heap.size 1 A n (ints .u8 a)) :
    Calls Try.prog 32 #[.slice A n c] w (TRead w (overS N)) := by
  obtain ⟨m, hL⟩ : ∃ m, (dig 4294967296 N).length = m := ⟨_, rfl⟩
  have h := limbs_any A n c a hn hm hnc ha m (by rw [hv]; exact hL) w hR
  rw [hv] at h
  by_cases h40 : m ≤ 40
  · rw [show overS N = (dig 4294967296 N, 0) by unfold overS; rw [if_pos (by omega)]]
    have t1 : decide ((40 : Int) < m) = false := decide_eq_false (by omega)
    have t2 : decide (40 < m) = false := decide_eq_false (by omega)
    have gL := Lib.hid hL
    clear hn hnc ha hv hR hL
    go_enter Try.func32, Try.ntmps32
    go_wp2_with (go_at_call 37; refine h.mono ?_; rintro e w' ⟨A1, c1, rfl, hc1, hr1, hb1⟩)
    go_ret2
    exact ⟨A1, c1, by simp only [gL.out]; rfl, by simp only [gL.out]; exact hc1, by simp only [gL.out]; exact hr1, hb1⟩
  · rw [show overS N = ([], 10) by unfold overS; rw [if_neg (by omega)]]
    have t1 : decide ((40 : Int) < m) = true := decide_eq_true (by omega)
    have t2 : decide (40 < m) = true := decide_eq_true (by omega)
    clear hn hnc ha hv hR hL
    go_enter Try.func32, Try.ntmps32
    go_wp2_with (go_at_call 37; refine h.mono ?_; rintro e w' ⟨A1, c1, rfl, hc1, hr1, hb1⟩)
    go_ret2
    exact tnil hb1 10
set_option maxHeartbeats 2000000 in
theorem rof_any (x0 : Nat) (hx0 : x0 < 18446744073709551616) (m : Nat) (hL : (dig 4294967296 x0).length = m) (w : World) :
    Calls Try.prog 16 #[.int .u64 (x0 : Int)] w (LRead w m x0) := by
  obtain ⟨i0, hi0, hz0, hz1, hz2⟩ := info_parts infoU8
  have gL := Lib.hid hL
  clear hL
  go_enter Try.func16, Try.ntmps16
  go_wp2
  go_loopw [0, 3] (fun t o wr => ∃ (k y : Nat) (L : List Nat) (Ao : Option Addr) (co : Nat), k ≤ 64 ∧ Hid (y < 2 ^ (64 - k)) ∧ y < 18446744073709551616 ∧ t = .int .u64 (y : Int) ∧ o = .slice Ao k co ∧ Hid (L.length = k) ∧ (∀ x ∈ L, x < 2) ∧ Hid (val 2 L + 2 ^ k * y = x0) ∧ wr.ownsRow w.heap.size 5 1 (.slice Ao k co) k (ints .u8 L) ∧ Below w.heap.size w wr) (fun t _ _ => (intOf t).toNat)
  case atStart => exact ⟨0, x0, [], none, 0, by omega, Lib.hid (by simpa using hx0), hx0, rfl, rfl, Lib.hid rfl, by simp, Lib.hid (by simp [val]), World.ownsRow_nil _ _ _ _, Below.refl _ _⟩
  case round =>
    obtain ⟨k, y, L, Ao, co, hk, hy, hy2, rfl, rfl, hLl, hLb, hv, hown, hB⟩ := hrel
    have hz := hB.size
    rcases Nat.eq_zero_or_pos y with rfl | hp
    · have hv2 : val 2 L = x0 := by have := hv.out; omega
      have hli := limbs_any Ao k co L hLl.out (by omega) (own_cap hown) hLb m (by rw [hv2]; exact gL.out) wr (Reads.of_own hown)
      rw [hv2] at hli
      clear hv hv2 hLl hLb hown gL hy hx0
      go_wp2_with (go_at_call 37; refine hli.mono ?_; rintro e w' ⟨A1, c1, rfl, hc1, hr1, hb1⟩)
      go_ret
      exact ⟨A1, c1, rfl, hc1, hr1, hB.trans (hb1.mono hz)⟩
    · have hk64 : k < 64 := by
        rcases Nat.lt_or_ge k 64 with h | h
        · exact h
        · have := hy.out
          rw [show 64 - k = 0 by omega] at this
          simp at this
          omega
      have hv' : Hid (val 2 (L ++ [y % 2]) + 2 ^ (k + 1) * (y / 2) = x0) := Lib.hid (by
        have := dig_step hv.out
        rw [val_snoc, hLl.out]
        omega)
      have hLb' : ∀ z ∈ L ++ [y % 2], z < 2 := by
        intro z hz
        rcases List.mem_append.1 hz with h | h
        · exact hLb z h
        · simp at h; omega
      have hLl' : Hid ((L ++ [y % 2]).length = k + 1) := Lib.hid (by simp; exact hLl.out)
      have hy' : Hid (y / 2 < 2 ^ (64 - (k + 1))) := Lib.hid (by
        have := hy.out
        rw [show 64 - k = (64 - (k + 1)) + 1 by omega, Nat.pow_succ] at this
        omega)
      have t1 : decide ((0 : Int) < (y : Int)) = true := decide_eq_true (by omega)
      have t2 : decide (0 < y) = true := decide_eq_true hp
      clear hv hLl hLb hy hx0
      go_wp2_with (at_builtin; refine wpList_push rfl (.tmp 6) (.tmp 10) 47 rfl w.heap.size 5 i0 _ 1 1 Try.underlying47 hi0 hz0 hz1 hz2 rfl (by omega) hB (Nat.le_refl _) (.slice Ao k co) k (ints .u8 L) rfl hown [.int .u8 _] rfl (one_int _ _) rfl (by unfold maxLen; omega) (by omega) ?_; intro v4 w4 ho4 hb4; rw [ints_push _ _ (by omega)] at ho4; obtain ⟨A4, c4, rfl, _, _⟩ := own_slice ho4)
      rw [show (y : Int) % 2 = ((y % 2 : Nat) : Int) by omega, Int.toNat_natCast] at ho4
      go_roundw
      case rel => exact ⟨k + 1, y / 2, L ++ [y % 2], A4, c4, by omega, hy', by omega, by first | rfl | go_num | (congr 1; omega), rfl, hLl', hLb', hv', ho4, hb4⟩
      case measure => simp [intOf] <;> omega
theorem rcheck_any (A : Option Addr) (n c B : Nat) (l : List Nat) (hn : l.length = n) (w : World) (hR : Reads w B 1 A n (ints .u32 l)) :
    Calls Try.prog 13 #[.slice A n c] w fun en w' => en = .returned (.int .i64 (mayE l)) ∧ w = w' := by
  have h := rmay_any A n c B l hn w hR
  cases hm : mayB l
  · rw [show mayE l = 8 by unfold mayE; rw [hm]; rfl]
    rw [hm] at h
    clear hR
    go_enter Try.func13, Try.ntmps13
    go_wp2_with (go_at_call 25; refine h.mono ?_; rintro e w' ⟨rfl, rfl⟩)
    go_ret
    exact ⟨rfl, rfl⟩
  · rw [show mayE l = 0 by unfold mayE; rw [hm]; rfl]
    rw [hm] at h
    clear hR
    go_enter Try.func13, Try.ntmps13
    go_wp2_with (go_at_call 25; refine h.mono ?_; rintro e w' ⟨rfl, rfl⟩)
    go_ret
    exact ⟨rfl, rfl⟩
theorem mayB_len {l : List Nat} (h : mayB l = true) : l.length ≤ 40 := by unfold mayB at h; simp only [decide_eq_true_eq] at h; exact h.1
theorem mayB_canon {l : List Nat} (h : mayB l = true) : Canon l := by unfold mayB at h; simp only [decide_eq_true_eq] at h; exact h.2
/-- Both limbs' numbers, or the error. -/
def both (a b : List Nat) : Bool := mayB a && mayB b
def cmpS (a b : List Nat) : Int × Int := if both a b = true then (cmpI (val 4294967296 a) (val 4294967296 b), 0) else (0, 8)
def addS (a b : List Nat) : List Nat × Int := if both a b = true then overS (val 4294967296 a + val 4294967296 b) else ([], 8)
def mulS (a b : List Nat) : List Nat × Int := if both a b = true then overS (val 4294967296 a * val 4294967296 b) else ([], 8)
def subS (a b : List Nat) : List Nat × Int := if both a b = true then (if val 4294967296 a < val 4294967296 b then ([], 11) else (dig 4294967296 (val 4294967296 a - val 4294967296 b), 0)) else ([], 8)
def CPost (w : World) (R : Int × Int) (en : Ending) (w' : World) : Prop := en = .returned (.tuple #[.int .i64 R.1, .int .i64 R.2]) ∧ Below w.heap.size w w'
theorem dig2_len {n : Nat} {a : List Nat} (hn : a.length ≤ n) (ha : ∀ x ∈ a, x < 4294967296) : (dig 2 (val 4294967296 a)).length ≤ 32 * n := by
  refine dig_len_le (by omega) ?_
  rw [← pow32]
  exact Nat.lt_of_lt_of_le (val_lt ha) (Nat.pow_le_pow_right (by omega) hn)
section
variable (A A2 : Option Addr) (n n2 c c2 : Nat) (a b : List Nat) (hn : a.length = n) (hn2 : b.length = n2) (ha : ∀ x ∈ a, x < 4294967296) (hb : ∀ x ∈ b, x < 4294967296) (w : World) (hR : Reads w w.heap.size 1 A n (ints .u32 a)) (hR2 : Reads w w.heap.size 1 A2 n2 (ints .u32 b))
include hn hn2 ha hb hR hR2 in
set_option maxHeartbeats 4000000 in
theorem rcmp_any :
    Calls Try.prog 7 #[.slice A n c, .slice A2 n2 c2] w (CPost w (cmpS a b)) := by
  have hma := fun w (hR : Reads w w.heap.size 1 A n (ints .u32 a)) => rmay_any A n c w.heap.size a hn w hR
  have hmb := fun w (hR : Reads w w.heap.size 1 A2 n2 (ints .u32 b)) => rmay_any A2 n2 c2 w.heap.size b hn2 w hR
  have h1 := hma w hR
  have h2 := hmb w hR2
  cases hba : mayB a
  · have hbo : both a b = false := by unfold both; rw [hba]; rfl
    rw [show cmpS a b = (0, 8) by unfold cmpS; rw [hbo]; rfl]
    rw [hba] at h1
    clear hR hR2 ha hb hn hn2 hma hmb h2 hbo hba
    go_enter Try.func7, Try.ntmps7
    go_wp2_with (go_at_call 25; (with_reducible refine h1.mono ?_); rintro e w' ⟨rfl, rfl⟩)
    go_ret2
    exact ⟨rfl, Below.refl _ _⟩
  cases hbb : mayB b
  · have hbo : both a b = false := by unfold both; rw [hbb, hba]; rfl
    rw [show cmpS a b = (0, 8) by unfold cmpS; rw [hbo]; rfl]
    rw [hba] at h1
    rw [hbb] at h2
    clear hR hR2 ha hb hn hn2 hma hmb hbo hba hbb
    go_enter Try.func7, Try.ntmps7
    go_wp2_with (first | (go_at_call 25; (with_reducible refine h1.mono ?_); rintro e w' ⟨rfl, rfl⟩) | (go_at_call 25; (with_reducible refine h2.mono ?_); rintro e w' ⟨rfl, rfl⟩))
    go_ret2
    exact ⟨rfl, Below.refl _ _⟩
  have hbo : both a b = true := by unfold both; rw [hbb, hba]; rfl
  rw [hba] at h1
  rw [hbb] at h2
  have la := mayB_len hba
  have lb := mayB_len hbb
  obtain ⟨m1, hm1⟩ : ∃ m, (dig 2 (val 4294967296 a)).length = m := ⟨_, rfl⟩
  obtain ⟨m2, hm2⟩ : ∃ m, (dig 2 (val 4294967296 b)).length = m := ⟨_, rfl⟩
  have l1 : m1 ≤ 1280 := by rw [← hm1]; exact dig2_len la ha
  have l2 : m2 ≤ 1280 := by rw [← hm2]; exact dig2_len lb hb
  have hda := digits_any A n c a hn (by omega) ha m1 hm1
  have hdb := digits_any A2 n2 c2 b hn2 (by omega) hb m2 hm2
  obtain ⟨va, hva⟩ : ∃ v, val 4294967296 a = v := ⟨_, rfl⟩
  obtain ⟨vb, hvb⟩ : ∃ v, val 4294967296 b = v := ⟨_, rfl⟩
  have wa := val_dig (B := 2) (by omega) va
  have wb := val_dig (B := 2) (by omega) vb
  have da := dig_lt (B := 2) (by omega) va
  have db := dig_lt (B := 2) (by omega) vb
  have lva := val_lt ha
  have lvb := val_lt hb
  rw [hva] at hm1 hda lva
  rw [hvb] at hm2 hdb lvb
  rw [show cmpS a b = (cmpI va vb, 0) by unfold cmpS; rw [if_pos hbo, hva, hvb]]
  have gm1 := Lib.hid hm1
  have gm2 := Lib.hid hm2
  clear ha hb hn hn2 hma hmb hbo hba hbb hva hvb lva lvb hm1 hm2 la lb
  go_enter Try.func7, Try.ntmps7
  go_wp2_with (first | (go_at_call 25; (with_reducible refine h1.mono ?_); rintro e w' ⟨rfl, rfl⟩) | (go_at_call 25; (with_reducible refine h2.mono ?_); rintro e w' ⟨rfl, rfl⟩) | fail)
  refine (hda _ hR).mono ?_
  rintro e w1 ⟨A1, c1, rfl, hc1, r1, b1⟩
  go_wp2_with fail
  refine (hdb _ ((hR2.below b1).more b1.size)).mono ?_
  rintro e w2 ⟨A3, c3, rfl, hc3, r3, b2⟩
  have r1' := (r1.below b2).more b2.size
  have b3 := b1.trans (b2.mono b1.size)
  clear b1 b2 r1 hR hR2 hda hdb
  go_wp2_with fail
  have ho := rorder_any A1 A3 m1 m2 c1 c3 w2.heap.size w2.heap.size (dig 2 va) (dig 2 vb) gm1.out gm2.out (by omega) (by omega) da db w2 r1' r3
  rw [wa, wb] at ho
  clear r1' r3 gm1 gm2 wa wb da db
  refine ho.mono ?_
  rintro e w3 ⟨rfl, rfl⟩
  go_wp2
  go_ret2
  exact ⟨rfl, b3⟩
include hn hn2 ha hb hR hR2 in
set_option maxHeartbeats 4000000 in
theorem radd_any :
    Calls Try.prog 9 #[.slice A n c, .slice A2 n2 c2] w (TRead w (addS a b)) := by
  have hma := fun w (hR : Reads w w.heap.size 1 A n (ints .u32 a)) => rmay_any A n c w.heap.size a hn w hR
  have hmb := fun w (hR : Reads w w.heap.size 1 A2 n2 (ints .u32 b)) => rmay_any A2 n2 c2 w.heap.size b hn2 w hR
  have h1 := hma w hR
  have h2 := hmb w hR2
  cases hba : mayB a
  · have hbo : both a b = false := by unfold both; rw [hba]; rfl
    rw [show addS a b = ([], 8) by unfold addS; rw [hbo]; rfl]
    rw [hba] at h1
    clear hR hR2 ha hb hn hn2 hma hmb h2 hbo hba
    go_enter Try.func9, Try.ntmps9
    go_wp2_with (go_at_call 25; (with_reducible refine h1.mono ?_); rintro e w' ⟨rfl, rfl⟩)
    go_ret2
    exact tnil (Below.refl _ _) 8
  cases hbb : mayB b
  · have hbo : both a b = false := by unfold both; rw [hbb, hba]; rfl
    rw [show addS a b = ([], 8) by unfold addS; rw [hbo]; rfl]
    rw [hba] at h1
    rw [hbb] at h2
    clear hR hR2 ha hb hn hn2 hma hmb hbo hba hbb
    go_enter Try.func9, Try.ntmps9
    go_wp2_with (first | (go_at_call 25; (with_reducible refine h1.mono ?_); rintro e w' ⟨rfl, rfl⟩) | (go_at_call 25; (with_reducible refine h2.mono ?_); rintro e w' ⟨rfl, rfl⟩))
    go_ret2
    exact tnil (Below.refl _ _) 8
  have hbo : both a b = true := by unfold both; rw [hbb, hba]; rfl
  rw [hba] at h1
  rw [hbb] at h2
  have la := mayB_len hba
  have lb := mayB_len hbb
  obtain ⟨m1, hm1⟩ : ∃ m, (dig 2 (val 4294967296 a)).length = m := ⟨_, rfl⟩
  obtain ⟨m2, hm2⟩ : ∃ m, (dig 2 (val 4294967296 b)).length = m := ⟨_, rfl⟩
  have l1 : m1 ≤ 1280 := by rw [← hm1]; exact dig2_len la ha
  have l2 : m2 ≤ 1280 := by rw [← hm2]; exact dig2_len lb hb
  have hda := digits_any A n c a hn (by omega) ha m1 hm1
  have hdb := digits_any A2 n2 c2 b hn2 (by omega) hb m2 hm2
  obtain ⟨va, hva⟩ : ∃ v, val 4294967296 a = v := ⟨_, rfl⟩
  obtain ⟨vb, hvb⟩ : ∃ v, val 4294967296 b = v := ⟨_, rfl⟩
  have wa := val_dig (B := 2) (by omega) va
  have wb := val_dig (B := 2) (by omega) vb
  have da := dig_lt (B := 2) (by omega) va
  have db := dig_lt (B := 2) (by omega) vb
  have lva := val_lt ha
  have lvb := val_lt hb
  rw [hva] at hm1 hda lva
  rw [hvb] at hm2 hdb lvb
  rw [show addS a b = overS (va + vb) by unfold addS; rw [if_pos hbo, hva, hvb]]
  have gm1 := Lib.hid hm1
  have gm2 := Lib.hid hm2
  clear ha hb hn hn2 hma hmb hbo hba hbb hva hvb lva lvb hm1 hm2 la lb
  go_enter Try.func9, Try.ntmps9
  go_wp2_with (first | (go_at_call 25; (with_reducible refine h1.mono ?_); rintro e w' ⟨rfl, rfl⟩) | (go_at_call 25; (with_reducible refine h2.mono ?_); rintro e w' ⟨rfl, rfl⟩) | fail)
  refine (hda _ hR).mono ?_
  rintro e w1 ⟨A1, c1, rfl, hc1, r1, b1⟩
  go_wp2_with fail
  refine (hdb _ ((hR2.below b1).more b1.size)).mono ?_
  rintro e w2 ⟨A3, c3, rfl, hc3, r3, b2⟩
  have r1' := (r1.below b2).more b2.size
  have b3 := b1.trans (b2.mono b1.size)
  clear b1 b2 r1 hR hR2 hda hdb
  go_wp2_with fail
  obtain ⟨m3, hm3⟩ : ∃ m, (dig 2 (va + vb)).length = m := ⟨_, rfl⟩
  have l3 : m3 ≤ 1281 := by
    obtain ⟨M, hM⟩ : ∃ M, M = max m1 m2 := ⟨_, rfl⟩
    refine Nat.le_trans (m := M + 1) ?_ (by omega)
    rw [← hm3]
    refine dig_len_le (by omega) ?_
    have e1 := val_lt da
    have e2 := val_lt db
    rw [wa, gm1.out] at e1
    rw [wb, gm2.out] at e2
    have p1 : 2 ^ m1 ≤ 2 ^ M := Nat.pow_le_pow_right (by omega) (by omega)
    have p2 : 2 ^ m2 ≤ 2 ^ M := Nat.pow_le_pow_right (by omega) (by omega)
    rw [Nat.pow_succ]
    omega
  have hp := plus_any A1 A3 m1 m2 c1 c3 (dig 2 va) (dig 2 vb) gm1.out gm2.out (by omega) (by omega) da db m3 (by rw [wa, wb]; exact hm3) w2 r1' r3
  rw [wa, wb] at hp
  have gm3 := Lib.hid hm3
  clear r1' r3 gm1 gm2 wa wb da db hm3
  refine hp.mono ?_
  rintro e w3 ⟨A4, c4, rfl, hc4, r4, b4⟩
  have b5 := b3.trans (b4.mono b3.size)
  have ht := rtold_any A4 m3 c4 (va + vb) (dig 2 (va + vb)) gm3.out (by omega) hc4 (dig_lt (by omega) _) (val_dig (by omega) _) w3 r4
  clear hp b3 b4 r4 gm3
  go_wp2_with fail
  refine ht.mono ?_
  rintro e w4 ⟨A5, c5, rfl, hc5, r5, b6⟩
  go_wp2
  go_ret2
  exact ⟨A5, c5, rfl, hc5, r5, b5.trans (b6.mono b5.size)⟩
include hn hn2 ha hb hR hR2 in
set_option maxHeartbeats 4000000 in
theorem rsub_any :
    Calls Try.prog 11 #[.slice A n c, .slice A2 n2 c2] w (TRead w (subS a b)) := by
  have hc := rcmp_any A A2 n n2 c c2 a b hn hn2 ha hb w hR hR2
  cases hbo : both a b
  · rw [show cmpS a b = (0, 8) by unfold cmpS; rw [hbo]; rfl] at hc
    rw [show subS a b = ([], 8) by unfold subS; rw [hbo]; rfl]
    clear ha hb hn hn2 hR hR2 hbo
    go_enter Try.func11, Try.ntmps11
    go_wp2_with (go_at_call 7; (with_reducible refine hc.mono ?_); rintro e w1 ⟨rfl, b1⟩)
    go_ret2
    exact tnil b1 8
  rw [show cmpS a b = (cmpI (val 4294967296 a) (val 4294967296 b), 0) by unfold cmpS; rw [hbo]; rfl] at hc
  by_cases hlt : val 4294967296 a < val 4294967296 b
  · rw [show cmpI (val 4294967296 a) (val 4294967296 b) = -1 by unfold cmpI; rw [if_pos hlt]] at hc
    rw [show subS a b = ([], 11) by unfold subS; rw [if_pos hbo, if_pos hlt]]
    clear ha hb hn hn2 hR hR2 hbo hlt
    go_enter Try.func11, Try.ntmps11
    go_wp2_with (go_at_call 7; (with_reducible refine hc.mono ?_); rintro e w1 ⟨rfl, b1⟩)
    go_ret2
    exact tnil b1 11
  rw [show subS a b = (dig 4294967296 (val 4294967296 a - val 4294967296 b), 0) by unfold subS; rw [if_pos hbo, if_neg hlt]]
  obtain ⟨T, hT⟩ : ∃ T, cmpI (val 4294967296 a) (val 4294967296 b) = T := ⟨_, rfl⟩
  have hT0 : 0 ≤ T := by rw [← hT]; unfold cmpI; rw [if_neg hlt]; split <;> decide
  have t0 : decide (T < 0) = false := decide_eq_false (by omega)
  rw [hT] at hc
  have hab := hbo
  unfold both at hab
  simp only [Bool.and_eq_true] at hab
  have la := mayB_len hab.1
  have lb := mayB_len hab.2
  obtain ⟨m1, hm1⟩ : ∃ m, (dig 2 (val 4294967296 a)).length = m := ⟨_, rfl⟩
  obtain ⟨m2, hm2⟩ : ∃ m, (dig 2 (val 4294967296 b)).length = m := ⟨_, rfl⟩
  have l1 : m1 ≤ 1280 := by rw [← hm1]; exact dig2_len la ha
  have hda := digits_any A n c a hn (by omega) ha m1 hm1
  have hdb := digits_any A2 n2 c2 b hn2 (by omega) hb m2 hm2
  have l40 : (dig 4294967296 (val 4294967296 a - val 4294967296 b)).length ≤ 40 := dig_len_le (by omega) (Nat.lt_of_le_of_lt (Nat.sub_le _ _) (Nat.lt_of_lt_of_le (val_lt ha) (Nat.pow_le_pow_right (by omega) la)))
  obtain ⟨va, hva⟩ : ∃ v, val 4294967296 a = v := ⟨_, rfl⟩
  obtain ⟨vb, hvb⟩ : ∃ v, val 4294967296 b = v := ⟨_, rfl⟩
  have wa := val_dig (B := 2) (by omega) va
  have wb := val_dig (B := 2) (by omega) vb
  have da := dig_lt (B := 2) (by omega) va
  have db := dig_lt (B := 2) (by omega) vb
  rw [hva] at hm1 hda
  rw [hvb] at hm2 hdb
  rw [hva, hvb] at hlt l40 ⊢
  have l2 : m2 ≤ m1 := by
    rw [← hm2]
    refine dig_len_le (by omega) ?_
    have := val_lt da
    rw [wa, hm1] at this
    omega
  obtain ⟨m3, hm3⟩ : ∃ m, (dig 2 (va - vb)).length = m := ⟨_, rfl⟩
  have l3 : m3 ≤ m1 := by
    rw [← hm3]
    refine dig_len_le (by omega) ?_
    have := val_lt da
    rw [wa, hm1] at this
    omega
  have gm1 := Lib.hid hm1
  have gm2 := Lib.hid hm2
  have gm3 := Lib.hid hm3
  have glt := Lib.hid hlt
  have gl := Lib.hid l40
  clear ha hb hn hn2 hbo hva hvb hm1 hm2 la lb hm3 hT hlt l40 hab
  go_enter Try.func11, Try.ntmps11
  go_wp2_with fail
  refine hc.mono ?_
  rintro e w0 ⟨rfl, b0⟩
  go_wp2_with fail
  refine (hda _ ((hR.below b0).more b0.size)).mono ?_
  rintro e w1 ⟨A1, c1, rfl, hc1, r1, b1⟩
  have b01 := b0.trans (b1.mono b0.size)
  go_wp2_with fail
  refine (hdb _ ((hR2.below b01).more b01.size)).mono ?_
  rintro e w2 ⟨A3, c3, rfl, hc3, r3, b2⟩
  have r1' := (r1.below b2).more b2.size
  have b3 := b01.trans (b2.mono b01.size)
  clear b0 b1 b2 b01 r1 hR hR2 hda hdb hc
  go_wp2_with fail
  have hp := minus_any A1 A3 m1 m2 c1 c3 (dig 2 va) (dig 2 vb) gm1.out gm2.out (by omega) (by omega) da db (by rw [wa, wb]; have := glt.out; omega) m3 (by rw [wa, wb]; exact gm3.out) w2 r1' r3
  rw [wa, wb] at hp
  clear r1' r3 gm1 gm2 wa wb da db glt
  refine hp.mono ?_
  rintro e w3 ⟨A4, c4, rfl, hc4, r4, b4⟩
  have b5 := b3.trans (b4.mono b3.size)
  have ht := rtold_any A4 m3 c4 (va - vb) (dig 2 (va - vb)) gm3.out (by omega) hc4 (dig_lt (by omega) _) (val_dig (by omega) _) w3 r4
  rw [show overS (va - vb) = (dig 4294967296 (va - vb), 0) by unfold overS; rw [if_pos gl.out]] at ht
  clear hp b3 b4 r4 gm3 gl
  go_wp2_with fail
  refine ht.mono ?_
  rintro e w4 ⟨A5, c5, rfl, hc5, r5, b6⟩
  go_wp2
  go_ret2
  exact ⟨A5, c5, rfl, hc5, r5, b5.trans (b6.mono b5.size)⟩
end
end Go.Proofs.Ytaklmkjldmbleaa
