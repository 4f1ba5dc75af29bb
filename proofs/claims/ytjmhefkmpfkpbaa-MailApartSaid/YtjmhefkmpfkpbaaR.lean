/- Field: the reference's digits, numbers and puts. -/
import Derived.Test.YtjmhefkmpfkpbaaC
namespace Go.Proofs.Ytjmhefkmpfkpbaa
open Go.ChangeShapes Go.WideShapes Go.ChangeAt Go.RowKit
set_option linter.unusedSimpArgs false
set_option linter.unusedVariables false
set_option maxRecDepth 100000 in
set_option maxHeartbeats 4000000 in
theorem rdigits (x s : Nat) (hx : x < 18446744073709551616) (hs : s ≤ 8) (w : World) :
    Calls Try.prog 88 #[.int .u64 x, .int .i64 s] w fun en w' => ∃ A c, en = .returned (.slice A s c) ∧ w'.ownsRow w.heap.size 5 1 (.slice A s c) s (u8s (digs x s)) ∧ Below w.heap.size w w' := by
  obtain ⟨i0, hi0, hz0, hz1, hz2⟩ := info_parts info5
  go_enter Try.func88, Try.ntmps88
  go_wp2
  go_loopw [0, 5, 6] (fun t o i wr => ∃ (k y : Nat) (A : Option Addr) (c : Nat), k ≤ s ∧ y = x / 256 ^ k ∧ t = .int .u64 (y : Int) ∧ o = .slice A k c ∧ i = .int .i64 k ∧ wr.ownsRow w.heap.size 5 1 (.slice A k c) k (u8s (digs x k)) ∧ Below w.heap.size w wr) (fun _ _ i _ => s - (intOf i).toNat)
  case atStart => exact ⟨0, x, none, 0, by omega, by simp, rfl, rfl, rfl, World.ownsRow_nil _ _ _ _, Below.refl _ _⟩
  case round =>
    obtain ⟨k, y, A, c, hk, hy, rfl, rfl, rfl, ho, hB⟩ := hrel
    by_cases hlt : k < s
    · have hy1 : y < 18446744073709551616 := by rw [hy]; exact Nat.lt_of_le_of_lt (Nat.div_le_self _ _) hx
      have hyn := Lib.hid (show y / 256 = x / 256 ^ (k + 1) by rw [hy, Nat.div_div_eq_div_mul, Nat.pow_succ])
      have hdc := Lib.hid (show ((y % 256 : Nat) : Int) :: digs x k = digs x (k + 1) by rw [digs_cons, hy])
      replace hy := Lib.hid hy
      have t1 : (y : Int).tmod 256 = (y : Int) % 256 := Int.tmod_eq_emod_of_nonneg (by omega)
      have t2 : (y : Int).tdiv 256 = (y : Int) / 256 := Int.tdiv_eq_ediv_of_nonneg (by omega)
      have hu8 := u8s_one (digs x k)
      obtain ⟨D, hD⟩ : ∃ D, digs x k = D := ⟨_, rfl⟩
      rw [hD] at ho hu8 hdc
      have hRd := (Reads.of_own ho).alloc (Nat.le_refl _) (.cells #[.int .u8 ((y : Int) % 256)] 5)
      clear hD hx
      have hz := hB.size
      go_wp2_with (at_builtin; refine wpList_append_any _ rfl (.tmp 15) (.tmp 16) _ rfl w.heap.size 5 i0 _ 1 1 Try.underlying34 hi0 hz0 hz1 hz2 rfl (by omega) (.slice (some ⟨wr.heap.size, 0, none⟩) 1 1) 1 [.int .u8 ((y : Int) % 256)] rfl (owns_new wr w.heap.size hz _ 5 1 rfl (by unfold maxLen; omega)) wr.heap.size A k c (u8s D) rfl hRd hu8 (by unfold maxLen; omega) (by omega) (by rw [World.size_alloc]; omega) ?_; intro v1 w1 ho1 hg1 _; have hB1 : Below w.heap.size w w1 := (hB.alloc hz _).grown hg1 (by rw [World.size_alloc]; omega) (by intro q hq; simp [Value.ownBlock] at hq; omega); rw [show 1 + k = k + 1 by omega] at ho1; obtain ⟨A1, c1, rfl, _, _⟩ := own_slice ho1)
      have ho2 : w1.ownsRow w.heap.size 5 1 (.slice A1 (k + 1) c1) (k + 1) (u8s (digs x (k + 1))) := by
        rw [← hdc.out]
        have e : ((y % 256 : Nat) : Int) = (y : Int) % 256 := by omega
        rw [e]
        exact ho1
      clear ho ho1 hRd hg1 hB
      go_wp2
      go_roundw
      case rel => exact ⟨k + 1, y / 256, A1, c1, by omega, hyn.out, by go_num, rfl, by go_num, ho2, hB1⟩
      case measure => simp [intOf] <;> omega
    · obtain rfl : k = s := by omega
      clear hy hx hs
      go_wp2
      go_ret
      exact ⟨A, c, rfl, ho, hB⟩
def numI : List Int → Int := List.foldl (fun a b => 256 * a + b) 0
theorem numI_snoc (l : List Int) (b : Int) : numI (l ++ [b]) = 256 * numI l + b := by simp [numI]
theorem numI_take {l : List Int} {k : Nat} (h : k < l.length) : numI (l.take (k + 1)) = 256 * numI (l.take k) + l.getD k 0 := by
  rw [List.take_succ_eq_append_getElem h, numI_snoc, List.getD_eq_getElem?_getD, List.getElem?_eq_getElem h]
  rfl
theorem numI_digs (s : Nat) : ∀ x, numI (digs x s) = ((x % 256 ^ s : Nat) : Int) := by
  induction s with
  | zero => intro x; simp [digs, numI, Nat.mod_one]
  | succ s ih =>
    intro x
    rw [digs, numI_snoc, ih, Nat.pow_succ, Nat.mul_comm (256 ^ s) 256, Nat.mod_mul]
    omega
theorem numI_lt {l : List Int} (hb : ∀ b ∈ l, 0 ≤ b ∧ b < 256) : ∀ k, k ≤ l.length → 0 ≤ numI (l.take k) ∧ numI (l.take k) < ((256 ^ k : Nat) : Int) := by
  intro k
  induction k with
  | zero => intro _; simp [numI]
  | succ k ih =>
    intro hk
    have h1 := ih (by omega)
    have hb1 := hb _ (show l.getD k 0 ∈ l by rw [List.getD_eq_getElem?_getD, List.getElem?_eq_getElem (by omega)]; exact List.getElem_mem _)
    rw [numI_take (by omega), Nat.pow_succ]
    omega
theorem digs_byte (s : Nat) : ∀ x, ∀ b ∈ digs x s, 0 ≤ b ∧ b < 256 := by
  induction s with
  | zero => intro x b hb; simp [digs] at hb
  | succ s ih =>
    intro x b hb
    rw [digs] at hb
    rcases List.mem_append.mp hb with h | h
    · exact ih _ b h
    · simp at h; omega
set_option maxHeartbeats 4000000 in
theorem rof (A : Option Addr) (n c B : Nat) (l : List Int) (hn : l.length = n) (hm : n ≤ 8) (hb : ∀ b ∈ l, 0 ≤ b ∧ b < 256) (w : World) (hR : Reads w B 1 A n (u8s l)) :
    Calls Try.prog 102 #[.slice A n c] w fun en w' => en = .returned (.int .u64 (numI l)) ∧ w' = w := by
  obtain ⟨N, hN⟩ : ∃ N, numI l = N := ⟨_, rfl⟩
  rw [hN]
  go_enter Try.func102, Try.ntmps102
  go_wp2
  go_loop [3, 4] (fun s i => ∃ k : Nat, k ≤ n ∧ i = .int .i64 k ∧ s = .int .u64 (numI (l.take k))) (fun _ i => n - (intOf i).toNat)
  case atStart => exact ⟨0, by omega, rfl, rfl⟩
  case round =>
    obtain ⟨k, hk, rfl, rfl⟩ := hrel
    by_cases hlt : k < n
    · obtain ⟨ad, rfl, hab, cA⟩ := at_u8 hn hR hlt
      have ht := Lib.hid (numI_take (l := l) (k := k) (by omega))
      have hlt2 := numI_lt hb k (by omega)
      have hb1 := hb _ (show l.getD k 0 ∈ l by rw [List.getD_eq_getElem?_getD, List.getElem?_eq_getElem (by omega)]; exact List.getElem_mem _)
      have h7 : 256 ^ k ≤ 256 ^ 7 := Nat.pow_le_pow_right (by omega) (by omega)
      obtain ⟨x, hx⟩ : ∃ x, l.getD k 0 = x := ⟨_, rfl⟩
      obtain ⟨y, hy⟩ : ∃ y, numI (l.take k) = y := ⟨_, rfl⟩
      rw [hx] at cA ht hb1
      rw [hy] at ht hlt2
      rw [hy]
      obtain ⟨y0, y1⟩ := hlt2
      have y2 : y < 72057594037927936 := by omega
      obtain ⟨x0, x1⟩ := hb1
      have w1 : IntKind.u64.wrap (256 * y) = 256 * y := IntWalk.u64_in _ (by omega)
      have w2 : IntKind.u64.wrap (256 * y + x) = 256 * y + x := IntWalk.u64_in _ (by omega)
      have w3 : IntKind.u64.wrap x = x := IntWalk.u64_in _ (by omega)
      have i1 : (0 : Int) ≤ k := by omega
      have i2 : (k : Int) < n := by omega
      have HN := Lib.hid hN
      clear hx hy h7 hR hn hb hN y1
      go_wp2
      go_round
      case rel => exact ⟨k + 1, by omega, by go_num, by rw [ht.out]⟩
      case measure => simp [intOf]; omega
    · obtain rfl : k = n := by omega
      rw [List.take_of_length_le (by omega), hN]
      clear hR hn hb hN
      go_wp2
      go_ret
      exact ⟨rfl, rfl⟩
/-- The outcome of the reference's put. -/
def RPost (w : World) (n : Nat) (l : List Int) (en : Ending) (w' : World) : Prop :=
  Below w.heap.size w w' ∧ ((3900 < n ∧ en = .returned (.tuple #[.slice none 0 0, .int .i64 4])) ∨
    (n ≤ 3900 ∧ ∃ A c, en = .returned (.tuple #[.slice A n c, .int .i64 0]) ∧ Reads w' w'.heap.size 1 A n (u8s l)))
end Go.Proofs.Ytjmhefkmpfkpbaa
