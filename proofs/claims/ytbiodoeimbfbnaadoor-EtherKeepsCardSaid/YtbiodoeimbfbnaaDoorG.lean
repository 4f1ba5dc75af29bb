/- Ether: the reference's Fits and Turned; the program's look-up of a place. -/
import Derived.Test.YtbiodoeimbfbnaaDoorBits
import Derived.Test.YtbiodoeimbfbnaaDoorF
namespace Go.Proofs.YtbiodoeimbfbnaaDoor
open Go.ChangeShapes Go.WideShapes Go.ChangeAt Go.RowKit
set_option linter.unusedSimpArgs false
set_option linter.unusedVariables false
theorem bit_fact {m k : Nat} : ((((m : Int) / 2 ^ k).tmod 2) == 1) = m.testBit k := by
  have hmn : ((m : Int) / 2 ^ k) = ((m / 2 ^ k : Nat) : Int) := by simp
  rw [hmn, Nat.testBit_eq_decide_div_mod_eq]
  generalize m / 2 ^ k = q
  rw [Int.tmod_eq_emod_of_nonneg (Int.natCast_nonneg _)]
  rcases Nat.mod_two_eq_zero_or_one q with h | h
  · rw [h, show ((q : Int) % 2) = 0 by omega]; rfl
  · rw [h, show ((q : Int) % 2) = 1 by omega]; rfl
theorem bit_fact2 {m k : Nat} : ((((m : Int) / 2 ^ k) % 2) == 1) = m.testBit k := by
  rw [← bit_fact, Int.tmod_eq_emod_of_nonneg]
  have hmn : ((m : Int) / 2 ^ k) = ((m / 2 ^ k : Nat) : Int) := by simp
  rw [hmn]
  exact Int.natCast_nonneg _
set_option maxHeartbeats 4000000 in
theorem fits_any (n : Nat) (a : Int) (m : Nat) (hn : n ≤ 100000) (hm : m < 4294967296) (R : Bool) (hR : fitB n a m = R) (w : World) : Calls Tryd.prog 26 #[.int .i64 (n : Int), .int .i64 a, .int .u32 (m : Int)] w fun en w' => en = .returned (.bool R) ∧ w = w' := by
  have e8 : IntKind.i64.wrap (8 * (n : Int)) = 8 * (n : Int) := IntWalk.i64_in _ (by omega)
  by_cases h1 : a < 0
  · obtain rfl : false = R := by rw [← hR]; unfold fitB; exact (decide_eq_false (by omega)).symm
    have t1 : decide (a < 0) = true := decide_eq_true h1
    clear hR h1
    go_enter Tryd.func26, Tryd.ntmps26
    go_wp2
    go_ret
    exact ⟨rfl, rfl⟩
  have t1 : decide (a < 0) = false := decide_eq_false h1
  by_cases h2 : 8 * (n : Int) ≤ a
  · obtain rfl : false = R := by
      rw [← hR]
      cases hf : fitB n a m
      · rfl
      · by_cases h0 : m = 0
        · subst h0; unfold fitB at hf; simp at hf
        · have := ((fit_iff hm h0 (by omega)).1 hf).1
          omega
    have t2 : decide (8 * (n : Int) ≤ a) = true := decide_eq_true h2
    clear hR h1 h2
    go_enter Tryd.func26, Tryd.ntmps26
    go_wp2
    go_ret
    exact ⟨rfl, rfl⟩
  have t2 : decide (8 * (n : Int) ≤ a) = false := decide_eq_false h2
  by_cases h0 : m = 0
  · obtain rfl : false = R := by rw [← hR]; unfold fitB; exact (decide_eq_false (by omega)).symm
    have t3 : ((m : Int) == 0) = true := by rw [h0]; rfl
    have t4 : (m == 0) = true := by rw [h0]; rfl
    clear hR h1 h2 h0
    go_enter Tryd.func26, Tryd.ntmps26
    go_wp2
    go_ret
    exact ⟨rfl, rfl⟩
  have t3 : ((m : Int) == 0) = false := beq_eq_false_iff_ne.2 (by omega)
  have t4 : (m == 0) = false := beq_eq_false_iff_ne.2 h0
  have hfi := fit_iff (n := n) hm h0 (show 0 ≤ a by omega)
  rw [hR] at hfi
  have gyes : Hid ((∀ k : Nat, k < 32 → m.testBit k = true → (k : Int) < 8 * n - a) → R = true) := Lib.hid (fun h => hfi.2 ⟨by omega, h⟩)
  have gno : Hid (∀ k : Nat, k < 32 → m.testBit k = true → 8 * (n : Int) - a ≤ k → R = false) := Lib.hid (fun k hk hb h => by
    cases hR2 : R
    · rfl
    · have := (hfi.1 hR2).2 k hk hb
      omega)
  obtain ⟨p, rfl⟩ : ∃ p : Nat, a = (p : Int) := ⟨a.toNat, by omega⟩
  have ew : IntKind.i64.wrap (8 * (n : Int) - p) = 8 * (n : Int) - p := IntWalk.i64_in _ (by omega)
  have hp : p < 8 * n := by omega
  clear hR h1 h2 h0 hfi
  go_enter Tryd.func26, Tryd.ntmps26
  go_wp2
  go_loopw [7] (fun t wr => ∃ k : Nat, k ≤ 32 ∧ t = .int .i64 (k : Int) ∧ Hid (∀ j : Nat, j < k → m.testBit j = true → (j : Int) < 8 * n - p) ∧ wr = w) (fun t _ => 32 - (intOf t).toNat)
  case atStart => exact ⟨0, by omega, rfl, Lib.hid (fun j h => by omega), rfl⟩
  case round =>
    obtain ⟨k, hk, rfl, h0, rfl⟩ := hrel
    by_cases hlt : k < 32
    · have x1 : decide ((k : Int) < 32) = true := decide_eq_true (by omega)
      have b1 := bit_fact (m := m) (k := k)
      have b2 := bit_fact2 (m := m) (k := k)
      cases hb : m.testBit k
      · rw [hb] at b1 b2
        have h0' : Hid (∀ j : Nat, j < k + 1 → m.testBit j = true → (j : Int) < 8 * n - p) := Lib.hid (fun j hj hjb => by
          rcases Nat.lt_or_ge j k with h | h
          · exact h0.out j h hjb
          · rw [show j = k by omega, hb] at hjb; cases hjb)
        clear h0 hb gno gyes
        go_wp2
        go_roundw
        case rel => exact ⟨k + 1, by omega, by go_num, h0', by first | rfl | trivial⟩
        case measure => simp [intOf] <;> omega
      · rw [hb] at b1 b2
        by_cases hge : 8 * (n : Int) - p ≤ k
        · obtain rfl := gno.out k hlt hb hge
          have t5 : decide (8 * (n : Int) - p ≤ k) = true := decide_eq_true hge
          have t6 : decide (8 * (n : Int) ≤ k + p) = true := decide_eq_true (by omega)
          clear h0 hb gyes gno hge
          go_wp2
          go_ret
          exact ⟨rfl, rfl⟩
        · have t5 : decide (8 * (n : Int) - p ≤ k) = false := decide_eq_false hge
          have t6 : decide (8 * (n : Int) ≤ k + p) = false := decide_eq_false (by omega)
          have h0' : Hid (∀ j : Nat, j < k + 1 → m.testBit j = true → (j : Int) < 8 * n - p) := Lib.hid (fun j hj hjb => by
            rcases Nat.lt_or_ge j k with h | h
            · exact h0.out j h hjb
            · rw [show j = k by omega]; omega)
          clear h0 hb gno gyes hge
          go_wp2
          go_roundw
          case rel => exact ⟨k + 1, by omega, by go_num, h0', by first | rfl | trivial⟩
          case measure => simp [intOf] <;> omega
    · obtain rfl : k = 32 := by omega
      obtain rfl := gyes.out (fun j hj => h0.out j hj)
      clear h0 gno gyes
      go_wp2
      go_ret
      exact ⟨rfl, rfl⟩
theorem xor_fact {b0 r : Nat} (hb : b0 < 256) (hr : r < 8) : bits .xor .u8 (b0 : Int) ((2 : Int) ^ r % 256) = ((b0 ^^^ 2 ^ r : Nat) : Int) := by
  have hp : 2 ^ r < 256 := Nat.pow_lt_pow_right (by omega) hr
  have e : ((2 : Int) ^ r % 256) = ((2 ^ r : Nat) : Int) := by
    have e2 : ((2 ^ r : Nat) : Int) = (2 : Int) ^ r := by simp
    rw [← e2]
    exact Int.emod_eq_of_lt (Int.natCast_nonneg _) (Int.ofNat_lt.2 hp)
  rw [e]
  exact u8_xor_nat b0 _ hb hp
theorem wrap_pow8 {r : Nat} : IntKind.u8.wrap ((2 : Int) ^ r) = (2 : Int) ^ r % 256 := by rw [IntKind.wrap_u8]
def TuPost (w : World) (n : Nat) (t : List Nat) (en : Ending) (w' : World) : Prop := ∃ Ao co, en = .returned (.slice Ao n co) ∧ n ≤ co ∧ OwnR w' w.heap.size 5 Ao n (ints .u8 t) ∧ Below w.heap.size w w'
set_option maxHeartbeats 8000000 in
theorem turned_any (X : Option Addr) (n d : Nat) (txt : List Nat) (p m : Nat) (hn : txt.length = n) (hx : ∀ b ∈ txt, b < 256) (hm : n ≤ 10000) (hm32 : m < 4294967296) (hfit : ∀ k : Nat, m.testBit k = true → p + k < 8 * n) (hp : p < 8 * n) (w : World) (hR : Reads w w.heap.size 1 X n (ints .u8 txt)) :
    Calls Tryd.prog 27 #[.slice X n d, .int .i64 (p : Int), .int .u32 (m : Int)] w (TuPost w n (turned txt p m)) := by
  obtain ⟨j0, hj0, hy0, hy1, hy2⟩ := info_parts infoU8
  have gt : Hid (turned txt p m = turnBy p txt (upTo m 32)) := Lib.hid rfl
  have gn := Lib.hid hn
  have gx := Lib.hid hx
  have gf := Lib.hid hfit
  clear hn hx hfit
  go_enter Tryd.func27, Tryd.ntmps27
  go_wp2_with (at_builtin; refine wpList_append_any _ rfl (.tmp 10) (.tmp 11) 35 rfl w.heap.size 5 j0 _ 1 1 Tryd.underlying35 hj0 hy0 hy1 hy2 rfl (by omega) (.slice (some ⟨w.heap.size, 0, none⟩) 0 0) 0 [] rfl (owns_new w w.heap.size (Nat.le_refl _) [] 5 0 rfl (Nat.zero_le _)) w.heap.size X n d (ints .u8 txt) rfl (hR.alloc (Nat.le_refl _) _) (ints_one _ _) (by unfold maxLen; omega) (by omega) (by rw [World.size_alloc]; omega) ?_; intro v4 w4 ho4 hg4 _; rw [Nat.zero_add, List.nil_append] at ho4; obtain ⟨Ao, co, rfl, hco, _⟩ := own_slice ho4)
  have hb4 : Below w.heap.size w w4 := Below.grown ((Below.refl w.heap.size w).alloc (Nat.le_refl _) _) hg4 (by rw [World.size_alloc]; omega) (by intro q hq; simp [Value.ownBlock] at hq; omega)
  have hO := OwnR.of_row ho4
  have hO0 : OwnR w4 w.heap.size 5 Ao n (ints .u8 (turnBy p txt (upTo m 0))) := hO
  clear ho4 hg4 hO hR
  go_loopw [8] (fun t wr => ∃ k : Nat, k ≤ 32 ∧ t = .int .i64 (k : Int) ∧ OwnR wr w.heap.size 5 Ao n (ints .u8 (turnBy p txt (upTo m k))) ∧ Below w.heap.size w wr) (fun t _ => 32 - (intOf t).toNat)
  case atStart => exact ⟨0, by omega, rfl, hO0, hb4⟩
  case round =>
    clear hO0 hb4
    obtain ⟨k, hk, rfl, hO, hB⟩ := hrel
    by_cases hlt : k < 32
    · have x1 : decide ((k : Int) < 32) = true := decide_eq_true (by omega)
      have b1 := bit_fact (m := m) (k := k)
      have b2 := bit_fact2 (m := m) (k := k)
      have hus := upTo_succ m k
      cases hb : m.testBit k
      · rw [hb] at b1 b2 hus
        rw [if_neg (by decide)] at hus
        have gus := Lib.hid hus
        clear hb hus
        go_wp2
        go_roundw
        case rel => exact ⟨k + 1, by omega, by go_num, by rw [gus.out]; exact hO, hB⟩
        case measure => simp [intOf] <;> omega
      · rw [hb] at b1 b2 hus
        rw [if_pos rfl] at hus
        have hpk := gf.out k hb
        obtain ⟨T, hT⟩ : ∃ T, turnBy p txt (upTo m k) = T := ⟨_, rfl⟩
        have hTl : T.length = n := by rw [← hT, turnBy_len, gn.out]
        have hTb : ∀ b ∈ T, b < 256 := by rw [← hT]; exact turnBy_lt p _ gx.out
        have hnew : turnBy p txt (upTo m (k + 1)) = flipAt T (p + k) := by rw [hus, turnBy_snoc, hT]
        rw [hT] at hO
        have hq : (p + k) / 8 < n := by omega
        obtain ⟨g, rfl, hgb, hgl, hc, hf, hs⟩ := hO.at_ hq
        rw [ints_at .u8 (by omega)] at hc
        obtain ⟨b0, hb0⟩ : ∃ b, T.getD ((p + k) / 8) 0 = b := ⟨_, rfl⟩
        have hb0' : b0 < 256 := by rw [← hb0]; exact getD_lt (by omega) hTb _
        rw [hb0] at hc
        have x5 : (0 : Int) ≤ ((p : Int) + k) / 8 := by omega
        have x6 : ((p : Int) + k) / 8 < (n : Int) := by omega
        have x7 := xor_fact hb0' (Nat.mod_lt (p + k) (show 8 > 0 by omega))
        have hst := hs (.int .u8 ((b0 ^^^ 2 ^ ((p + k) % 8) : Nat) : Int))
        have hcells : (ints .u8 T).set ((p + k) / 8) (.int .u8 ((b0 ^^^ 2 ^ ((p + k) % 8) : Nat) : Int)) = ints .u8 (turnBy p txt (upTo m (k + 1))) := by
          rw [hnew]
          unfold flipAt
          rw [hb0]
          simp [ints, List.map_set]
        rw [hcells] at hst
        have hBs := hB.setCell (p := ⟨g, (p + k) / 8, none⟩) hgb (.int .u8 ((b0 ^^^ 2 ^ ((p + k) % 8) : Nat) : Int))
        clear hO hs hT hTl hTb hnew hb0 hcells hus hb hB
        go_wp2
        go_roundw
        case rel => exact ⟨k + 1, by omega, by go_num, by first | exact hst | (rw [x7]; exact hst), by first | exact hBs | (rw [x7]; exact hBs)⟩
        case measure => simp [intOf] <;> omega
    · obtain rfl : k = 32 := by omega
      go_wp2
      go_ret
      exact ⟨Ao, co, rfl, hco, by rw [gt.out]; exact hO, hB⟩
end Go.Proofs.YtbiodoeimbfbnaaDoor
