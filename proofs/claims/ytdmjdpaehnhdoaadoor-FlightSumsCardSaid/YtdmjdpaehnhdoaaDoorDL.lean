/- Door: limbs (plain), and the library's operations on bits -/
import Derived.Test.YtdmjdpaehnhdoaaDoorSh
import Derived.Test.YtdmjdpaehnhdoaaDoorKA
import Derived.Lib.ItoaNum
import Derived.Lib.TrailingZeros
import Derived.Shelf.Spec.TrailingZeros
import Derived.IntWalk
import Derived.Laws.BitsAllLaws
import Derived.WalkMore
import Derived.Lib.Hide
namespace Go.Proofs.YtdmjdpaehnhdoaaDoor
open Go.ChangeShapes Go.WideShapes Go.ChangeAt Go.RowKit
set_option linter.unusedSimpArgs false
set_option linter.unusedVariables false
theorem infoU32 : (Tryd.prog.info? 71).map (fun i => (i.zero, i.size, i.bytes)) = some (some (.int .u32 0), 1, 4) := by kernel_rfl
theorem pow32 (i : Nat) : 4294967296 ^ i = 2 ^ (32 * i) := by rw [Nat.pow_mul]
theorem ones_xor (x : Nat) (h : x < 4294967296) : 4294967295 ^^^ x = 4294967295 - x := by
  have e : (BitVec.allOnes 32 ^^^ BitVec.ofNat 32 x).toNat = (~~~ BitVec.ofNat 32 x).toNat := by rw [BitVec.allOnes_xor]
  rw [BitVec.toNat_xor, BitVec.toNat_not, BitVec.toNat_allOnes, BitVec.toNat_ofNat, Nat.mod_eq_of_lt (by omega)] at e
  have : (2 : Nat) ^ 32 - 1 = 4294967295 := by decide
  rw [this] at e
  exact e
theorem not_val (x : Nat) (h : x < 4294967296) : bits .xor .u32 IntKind.u32.max (x : Int) = ((4294967295 - x : Nat) : Int) := by
  rw [← ones_xor x h, ← u32_xor_nat 4294967295 x (by omega) h]
  rfl
theorem tb31 (x : Nat) (h : x < 4294967296) : x.testBit 31 = decide (2147483648 ≤ x) := by
  rw [Nat.testBit_eq_decide_div_mod_eq]
  rw [decide_eq_decide]
  have : (2 : Nat) ^ 31 = 2147483648 := by decide
  rw [this]
  omega
theorem borrow_nat (x y c : Nat) (hx : x < 4294967296) (hy : y < 4294967296) (hc : c ≤ 1) :
    (((4294967295 - x) &&& y) ||| ((4294967295 - (x ^^^ y)) &&& ((x + 4294967296 - y - c) % 4294967296))) / 2147483648 = if x < y + c then 1 else 0 := by
  have hxy : x ^^^ y < 4294967296 := Nat.xor_lt_two_pow (n := 32) (by omega) (by omega)
  have hd : (x + 4294967296 - y - c) % 4294967296 < 4294967296 := Nat.mod_lt _ (by omega)
  have ha : (4294967295 - x) &&& y < 4294967296 := Nat.and_lt_two_pow (n := 32) _ (by omega)
  have hb : (4294967295 - (x ^^^ y)) &&& ((x + 4294967296 - y - c) % 4294967296) < 4294967296 := Nat.and_lt_two_pow (n := 32) _ (by omega)
  have hz := Nat.or_lt_two_pow (n := 32) (show _ < 2 ^ 32 from ha) (show _ < 2 ^ 32 from hb)
  have ht := tb31 _ hz
  rw [Nat.testBit_or, Nat.testBit_and, Nat.testBit_and, tb31 y hy, tb31 _ hd, tb31 (4294967295 - x) (by omega), tb31 (4294967295 - (x ^^^ y)) (by omega)] at ht
  have hxor : decide (2147483648 ≤ 4294967295 - (x ^^^ y)) = !(decide (2147483648 ≤ x ^^^ y)) := by
    by_cases h : 2147483648 ≤ x ^^^ y
    · rw [decide_eq_true h, decide_eq_false (by omega)]; rfl
    · rw [decide_eq_false h, decide_eq_true (by omega)]; rfl
  have h2 := tb31 (x ^^^ y) hxy
  rw [Nat.testBit_xor, tb31 x hx, tb31 y hy] at h2
  rw [hxor, ← h2] at ht
  generalize ((4294967295 - x) &&& y ||| (4294967295 - (x ^^^ y)) &&& ((x + 4294967296 - y - c) % 4294967296)) = z at ht hz ⊢
  have key : (2147483648 ≤ z) ↔ x < y + c := by
    have := ht
    by_cases h3 : 2147483648 ≤ z
    · rw [decide_eq_true h3] at this
      simp only [Bool.or_eq_true, Bool.and_eq_true, decide_eq_true_eq, Bool.not_eq_true'] at this
      refine ⟨fun _ => ?_, fun _ => h3⟩
      rcases this with ⟨h4, h5⟩ | ⟨h4, h5⟩
      · omega
      · have : (2147483648 ≤ x) ↔ (2147483648 ≤ y) := by
          by_cases a1 : 2147483648 ≤ x <;> by_cases a2 : 2147483648 ≤ y <;> simp [a1, a2] at h4 <;> omega
        omega
    · rw [decide_eq_false h3] at this
      simp only [Bool.or_eq_false_iff, Bool.and_eq_false_iff, decide_eq_false_iff_not, Bool.not_eq_false'] at this
      refine ⟨fun h => absurd h h3, fun h => ?_⟩
      exfalso
      obtain ⟨h4, h5⟩ := this
      rcases h5 with h5 | h5
      · by_cases a1 : 2147483648 ≤ x <;> by_cases a2 : 2147483648 ≤ y <;> simp [a1, a2] at h5 <;> omega
      · omega
  have hz' : z < 4294967296 := hz
  by_cases h : x < y + c
  · rw [if_pos h]
    have := key.2 h
    omega
  · rw [if_neg h]
    have : ¬ 2147483648 ≤ z := fun h' => h (key.1 h')
    omega
theorem borrow_val (x y c : Nat) (hx : x < 4294967296) (hy : y < 4294967296) (hc : c ≤ 1) :
    bits .or .u32 (bits .and .u32 (bits .xor .u32 IntKind.u32.max (x : Int)) (y : Int)) (bits .and .u32 (bits .xor .u32 IntKind.u32.max (bits .xor .u32 (x : Int) (y : Int))) (((x : Int) - y - c) % 4294967296)) / 2147483648 = ((if x < y + c then 1 else 0 : Nat) : Int) := by
  have hd : ((x : Int) - y - c) % 4294967296 = (((x + 4294967296 - y - c) % 4294967296 : Nat) : Int) := by omega
  have hxy : x ^^^ y < 4294967296 := Nat.xor_lt_two_pow (n := 32) (by omega) (by omega)
  have hd2 : (x + 4294967296 - y - c) % 4294967296 < 4294967296 := Nat.mod_lt _ (by omega)
  rw [hd, not_val x hx, u32_xor_nat x y hx hy, not_val _ hxy, u32_and_nat _ _ (by omega) hy, u32_and_nat _ _ (by omega) hd2, u32_or_nat _ _ (Nat.and_lt_two_pow (n := 32) _ (by omega)) (Nat.and_lt_two_pow (n := 32) _ (by omega)), ← borrow_nat x y c hx hy hc]
  rfl
theorem ret_two {a b a2 b2 : Int} {k k2 : IntKind} (h : a = b) (h2 : a2 = b2) : Ending.returned (.tuple #[.int k a, .int k2 a2]) = .returned (.tuple #[.int k b, .int k2 b2]) := by rw [h, h2]
set_option maxHeartbeats 1000000 in
theorem add32 (x y c : Nat) (hx : x < 4294967296) (hy : y < 4294967296) (hc : c ≤ 1) (w : World) :
    Calls Tryd.prog 100 #[.int .u32 (x : Int), .int .u32 (y : Int), .int .u32 (c : Int)] w fun en w' => en = .returned (.tuple #[.int .u32 (((x + y + c) % 4294967296 : Nat) : Int), .int .u32 (((x + y + c) / 4294967296 : Nat) : Int)]) ∧ w = w' := by
  obtain ⟨R, hR⟩ : ∃ R, (((x + y + c) % 4294967296 : Nat) : Int) = R := ⟨_, rfl⟩
  obtain ⟨R2, hR2⟩ : ∃ R, (((x + y + c) / 4294967296 : Nat) : Int) = R := ⟨_, rfl⟩
  rw [hR, hR2]
  replace hR := Lib.hid hR
  replace hR2 := Lib.hid hR2
  go_enter Tryd.func100, Tryd.ntmps100
  go_wp2
  go_ret2
  exact ⟨ret_two (by rw [← hR.out]; omega) (by rw [← hR2.out]; omega), rfl⟩
set_option maxHeartbeats 1000000 in
theorem sub32 (x y c : Nat) (hx : x < 4294967296) (hy : y < 4294967296) (hc : c ≤ 1) (w : World) :
    Calls Tryd.prog 102 #[.int .u32 (x : Int), .int .u32 (y : Int), .int .u32 (c : Int)] w fun en w' => en = .returned (.tuple #[.int .u32 (((x + 4294967296 - y - c) % 4294967296 : Nat) : Int), .int .u32 ((if x < y + c then 1 else 0 : Nat) : Int)]) ∧ w = w' := by
  obtain ⟨B, hB⟩ : ∃ B, ((if x < y + c then 1 else 0 : Nat) : Int) = B := ⟨_, rfl⟩
  obtain ⟨R2, hR2⟩ : ∃ R, (((x + 4294967296 - y - c) % 4294967296 : Nat) : Int) = R := ⟨_, rfl⟩
  rw [hB, hR2]
  replace hB := Lib.hid hB
  replace hR2 := Lib.hid hR2
  go_enter Tryd.func102, Tryd.ntmps102
  go_wp2
  go_ret2
  exact ⟨ret_two (by rw [← hR2.out]; omega) (by rw [← hB.out]; exact borrow_val x y c hx hy hc), rfl⟩
theorem canon_ge {B : Nat} (hB : 2 ≤ B) : ∀ {l : List Nat}, Canon l → 0 < l.length → B ^ (l.length - 1) ≤ val B l
  | [], _, h => by simp at h
  | x :: [], h, _ => by
    rcases h with h | h
    · simp at h
    · simp at h
      rw [val_cons, val_nil]
      simp
      omega
  | x :: y :: r, h, _ => by
    have := canon_ge hB (canon_tail h) (by simp)
    rw [val_cons]
    simp only [List.length_cons, Nat.add_sub_cancel] at this ⊢
    rw [Nat.pow_succ, Nat.mul_comm]
    have := Nat.mul_le_mul_left B this
    omega
theorem canon_len_lt {B : Nat} (hB : 2 ≤ B) {a b : List Nat} (ha : ∀ x ∈ a, x < B) (cb : Canon b) (h : a.length < b.length) : val B a < val B b :=
  Nat.lt_of_lt_of_le (val_lt ha) (Nat.le_trans (Nat.pow_le_pow_right (by omega) (by omega)) (canon_ge hB cb (by omega)))
def Z32 (n : Nat) : Obj := .cells (ints .u32 (List.replicate n 0)).toArray 71
theorem made32 (n : Nat) : (Obj.cells (madeCells (Value.int .u32 0).cells n) 71) = Z32 n := by
  unfold Z32 madeCells
  congr 1
  apply Array.ext
  · simp
  · intro i h1 h2
    simp [Value.cells, Nat.mod_one]
theorem run_z32 (n : Nat) (hn : n ≤ 10000) (w : World) : (Instr.makeSlice 23 (.int .i64 (n : Int)) (.int .i64 (n : Int))).run Tryd.prog w = .ok (.slice (some ⟨w.heap.size, 0, none⟩) n n) (w.alloc (Z32 n)) := by
  obtain ⟨i0, hi0, hz0, hz1, hz2⟩ := info_parts infoU32
  have := run_make (P := Tryd.prog) w 23 71 i0 _ Tryd.underlying23 hi0 hz0 .i64 .i64 n n (by omega) (Int.le_refl _) (by rw [hz2]; omega) (by omega)
  rw [this, hz1, ← made32]
  simp
theorem ints_set (k : IntKind) (l : List Nat) (i : Nat) {z : Int} (h : 0 ≤ z) : (ints k l).toArray.setIfInBounds i (.int k z) = (ints k (l.set i z.toNat)).toArray := by
  apply Array.ext'
  rw [Array.toList_setIfInBounds]
  simp [ints, List.map_set, Int.toNat_of_nonneg h]
theorem getD_set {l : List Nat} {i j v : Nat} (h : i < l.length) : (l.set i v).getD j 0 = if i = j then v else l.getD j 0 := by
  rw [List.getD_eq_getElem?_getD, List.getElem?_set]
  by_cases e : i = j
  · rw [if_pos e, if_pos e, if_pos h]; rfl
  · rw [if_neg e, if_neg e, ← List.getD_eq_getElem?_getD]
theorem pre_set {B : Nat} {l : List Nat} {i v k : Nat} (h : k ≤ i) : pre B (l.set i v) k = pre B l k := by
  apply pre_eq
  intro j hj
  rw [List.getD_eq_getElem?_getD, List.getElem?_set, if_neg (by omega), ← List.getD_eq_getElem?_getD]
theorem pre_set_at {B : Nat} {l : List Nat} {i v : Nat} (h : i < l.length) : pre B (l.set i v) (i + 1) = pre B l i + B ^ i * v := by
  rw [pre_succ, pre_set (Nat.le_refl _), getD_set h, if_pos rfl]
theorem less_step {B V P Q k x y q d r : Nat} (he : x + B * r = d + y + q) (h : P + B ^ k * q = V + Q) : P + B ^ k * x + B ^ (k + 1) * r = V + B ^ k * d + (Q + B ^ k * y) := by
  have : B ^ k * x + B ^ (k + 1) * r = B ^ k * d + B ^ k * y + B ^ k * q := by
    rw [Nat.pow_succ, Nat.mul_assoc, ← Nat.mul_add, he, Nat.mul_add, Nat.mul_add]
  omega
theorem plusW {V P k a b c : Nat} (h : V + 4294967296 ^ k * c = P) : V + 4294967296 ^ k * ((a + b + c) % 4294967296) + 4294967296 ^ (k + 1) * ((a + b + c) / 4294967296) = P + 4294967296 ^ k * a + 4294967296 ^ k * b := by
  have e : (a + b + c) % 4294967296 + 4294967296 * ((a + b + c) / 4294967296) = a + b + c := Nat.mod_add_div _ _
  have : 4294967296 ^ k * ((a + b + c) % 4294967296) + 4294967296 ^ (k + 1) * ((a + b + c) / 4294967296) = 4294967296 ^ k * (a + b + c) := by
    rw [Nat.pow_succ, Nat.mul_assoc, ← Nat.mul_add, e]
  rw [Nat.mul_add, Nat.mul_add] at this
  omega
theorem val_set (B : Nat) : ∀ (l : List Nat) (i v : Nat), i < l.length → val B (l.set i v) + B ^ i * l.getD i 0 = val B l + B ^ i * v
  | [], i, v, h => by simp at h
  | x :: r, 0, v, _ => by simp [val]; omega
  | x :: r, i + 1, v, h => by
    have := val_set B r i v (by simpa using h)
    rw [List.set_cons_succ, val_cons, val_cons, List.getD_cons_succ, Nat.pow_succ]
    have h1 : B ^ i * B * r.getD i 0 = B * (B ^ i * r.getD i 0) := by rw [Nat.mul_comm (B ^ i) B, Nat.mul_assoc]
    have h2 : B ^ i * B * v = B * (B ^ i * v) := by rw [Nat.mul_comm (B ^ i) B, Nat.mul_assoc]
    rw [h1, h2]
    have h3 : B * (val B (r.set i v) + B ^ i * r.getD i 0) = B * (val B r + B ^ i * v) := by rw [this]
    rw [Nat.mul_add, Nat.mul_add] at h3
    omega
/-- How many binary digits a number has. -/
def bl (N : Nat) : Nat := (dig 2 N).length
theorem bl_eq {N k : Nat} (h1 : 2 ^ k ≤ N) (h2 : N < 2 ^ (k + 1)) : bl N = k + 1 := by
  have a := dig_len_le (B := 2) (by omega) h2
  have b := dig_len_gt (B := 2) (by omega) h1
  unfold bl
  omega
theorem bl_lt (N : Nat) : N < 2 ^ bl N := by
  have := val_lt (dig_lt (B := 2) (by omega) N)
  rwa [val_dig (by omega)] at this
theorem bl_ge {N : Nat} (h : 0 < N) : 2 ^ (bl N - 1) ≤ N := by
  have hp : 0 < (dig 2 N).length := by
    rcases Nat.eq_zero_or_pos (dig 2 N).length with h0 | h0
    · have := val_dig (B := 2) (by omega) N
      rw [List.eq_nil_of_length_eq_zero h0, val_nil] at this
      omega
    · exact h0
  have := canon_ge (B := 2) (by omega) (dig_canon (by omega) N) hp
  rwa [val_dig (by omega)] at this
theorem bl_top {a : List Nat} {n x : Nat} (hn : a.length = n + 1) (ha : ∀ x ∈ a, x < 4294967296) (hx : a.getD n 0 = x) (h0 : x ≠ 0) : bl (val 4294967296 a) = 32 * n + Lib.bitLen x := by
  have hxl : x < 4294967296 := by rw [← hx]; exact getD_lt (by omega) ha n
  obtain ⟨b1, b2, b3⟩ := Lib.bitLenAux_bounds 64 x (by omega) h0
  have e : Lib.bitLen x = Lib.bitLenAux 64 x := rfl
  rw [← e] at b1 b2 b3
  obtain ⟨L, hL⟩ : ∃ L, Lib.bitLen x = L + 1 := ⟨Lib.bitLen x - 1, by omega⟩
  rw [hL] at b2 b3 ⊢
  rw [Nat.add_sub_cancel] at b2
  have hv : val 4294967296 a = pre 4294967296 a n + 4294967296 ^ n * x := by
    rw [← pre_all 4294967296 a (n + 1) (by omega), pre_succ, hx]
  have hp := pre_lt (B := 4294967296) (by omega) ha n
  rw [pow32] at hp hv
  have h1 : 2 ^ (32 * n) * 2 ^ L ≤ 2 ^ (32 * n) * x := Nat.mul_le_mul_left _ b2
  have h2 : 2 ^ (32 * n) * (x + 1) ≤ 2 ^ (32 * n) * 2 ^ (L + 1) := Nat.mul_le_mul_left _ b3
  rw [Nat.mul_add, Nat.mul_one] at h2
  refine bl_eq (k := 32 * n + L) ?_ ?_
  · rw [Nat.pow_add]; omega
  · rw [Nat.add_assoc, Nat.pow_add]; omega
theorem shl_or {x r h : Nat} (hx : x < 4294967296) (hr : r < 32) (hh : h < 2 ^ r) : h ||| (x * 2 ^ r) % 4294967296 = h + (x * 2 ^ r) % 4294967296 := by
  have e : (x * 2 ^ r) % 4294967296 = 2 ^ r * (x % 2 ^ (32 - r)) := by
    have h32 : (4294967296 : Nat) = 2 ^ r * 2 ^ (32 - r) := by rw [← Nat.pow_add, show r + (32 - r) = 32 by omega]
    rw [h32, Nat.mul_comm x, Nat.mul_mod_mul_left]
  rw [e, Nat.or_comm, ← Nat.two_pow_add_eq_or_of_lt hh, Nat.add_comm]
theorem shl_hi {x r : Nat} (hx : x < 4294967296) : x * 2 ^ r / 4294967296 < 2 ^ r := by
  rw [Nat.div_lt_iff_lt_mul (by omega), Nat.mul_comm]
  exact (Nat.mul_lt_mul_left (Nat.pow_pos (by omega))).2 hx
theorem left_step {V W p h lo hi S P : Nat} {V1 V2 : Nat} (h1 : V1 + p * h = V + p * (h + lo)) (h2 : V2 = V1 + p * W * hi) (hS : lo + W * hi = S) (hP : P = V + p * S) : V2 = P := by
  subst hS hP h2
  rw [Nat.mul_add] at h1
  rw [Nat.mul_add, Nat.mul_assoc]
  omega
/-- How many of a number's lowest bits are 0. -/
def lowN (v : Nat) : Nat := if v = 0 then 0 else Lib.ctzFrom v v
theorem lowN_spec {v : Nat} (h : 0 < v) : ∃ m, v = 2 ^ lowN v * (2 * m + 1) := by
  unfold lowN
  rw [if_neg (by omega)]
  obtain ⟨m, hm, _⟩ := Lib.ctzFrom_spec v v h Nat.lt_two_pow_self
  exact ⟨m, hm⟩
theorem low_uniq : ∀ {i j m k : Nat}, 2 ^ i * (2 * m + 1) = 2 ^ j * (2 * k + 1) → i = j
  | 0, 0, _, _, _ => rfl
  | 0, j + 1, m, k, h => by rw [Nat.pow_zero, Nat.one_mul, Nat.pow_succ, Nat.mul_comm (2 ^ j) 2, Nat.mul_assoc] at h; omega
  | i + 1, 0, m, k, h => by rw [Nat.pow_zero, Nat.one_mul, Nat.pow_succ, Nat.mul_comm (2 ^ i) 2, Nat.mul_assoc] at h; omega
  | i + 1, j + 1, m, k, h => by
    rw [Nat.pow_succ, Nat.pow_succ, Nat.mul_comm (2 ^ i) 2, Nat.mul_comm (2 ^ j) 2, Nat.mul_assoc, Nat.mul_assoc] at h
    rw [low_uniq (Nat.eq_of_mul_eq_mul_left (by omega) h)]
theorem lowN_eq {v t m : Nat} (h : v = 2 ^ t * (2 * m + 1)) : lowN v = t := by
  have h0 : 0 < v := by rw [h]; exact Nat.mul_pos (Nat.pow_pos (by omega)) (by omega)
  obtain ⟨k, hk⟩ := lowN_spec h0
  exact low_uniq (hk.symm.trans h)
theorem low_at {a : List Nat} {k x : Nat} (h0 : ∀ j, j < k → a.getD j 0 = 0) (hk : k < a.length) (hx : a.getD k 0 = x) (hx0 : x ≠ 0) (hxl : x < 4294967296) : lowN (val 4294967296 a) = 32 * k + Lib.ctz 32 x := by
  obtain ⟨m, hm, hc⟩ := Lib.ctzFrom_spec 32 x (by omega) hxl
  rw [show Lib.ctz 32 x = Lib.ctzFrom 32 x by simp [Lib.ctz, hx0]]
  have e1 : val 4294967296 a = 4294967296 ^ k * (x + 4294967296 * val 4294967296 (a.drop (k + 1))) := by
    have hd : a.drop k = x :: a.drop (k + 1) := by
      rw [List.drop_eq_getElem_cons hk]
      congr 1
      rw [← hx, List.getD_eq_getElem?_getD, List.getElem?_eq_getElem hk]; rfl
    rw [val_drop_split 4294967296 a k, hd, val_cons, Nat.min_eq_left (by omega), val_zero, Nat.zero_add]
    intro z hz
    obtain ⟨i, hi, rfl⟩ := List.mem_iff_getElem.1 hz
    have hi' : i < k := by rw [List.length_take] at hi; omega
    have := h0 i hi'
    rw [List.getD_eq_getElem?_getD, List.getElem?_eq_getElem (by omega)] at this
    rw [List.getElem_take]
    exact this
  obtain ⟨t, ht⟩ : ∃ t, Lib.ctzFrom 32 x = t := ⟨_, rfl⟩
  rw [ht] at hm hc ⊢
  obtain ⟨r, hr⟩ : ∃ r, val 4294967296 (a.drop (k + 1)) = r := ⟨_, rfl⟩
  rw [hr] at e1
  refine lowN_eq (m := m + 2 ^ (31 - t) * r) ?_
  have e2 : (4294967296 : Nat) = 2 ^ t * (2 * 2 ^ (31 - t)) := by
    rw [← Nat.pow_succ', ← Nat.pow_add, show t + (31 - t + 1) = 32 by omega]
  have e3 : x + 4294967296 * r = 2 ^ t * (2 * (m + 2 ^ (31 - t) * r) + 1) := by
    rw [hm]
    conv => lhs; rw [e2]
    rw [Nat.mul_add, Nat.mul_add, Nat.mul_add, Nat.mul_add, Nat.mul_assoc, Nat.mul_assoc]
    omega
  rw [e1, e3, pow32, ← Nat.mul_assoc, ← Nat.pow_add]
/-- The library's table as its text lays it. -/
def Tab (w : World) : Prop := TabAt 0 Lib.deBruijn32tab w ∧ 0 < w.heap.size
theorem Tab.below {w w' : World} {B : Nat} (h : Tab w) (hb : Below B w w') (hB : 0 < B) : Tab w' := by
  refine ⟨fun j hj => (hb.cell (p := ⟨0, j, none⟩) hB).trans (h.1 j hj), Nat.lt_of_lt_of_le h.2 hb.size⟩
set_option maxHeartbeats 4000000 in
theorem tz_any (x : Nat) (hx : x < 4294967296) (hx0 : x ≠ 0) (w : World) (hT : Tab w) :
    Calls Tryd.prog 103 #[.int .u32 (x : Int)] w fun e w' => e = .returned (.int .i64 ((Lib.ctz 32 x : Nat) : Int)) ∧ w = w' := by
  obtain ⟨hlow, hk⟩ := Lib.lowest_bit 32 x hx0 hx
  obtain ⟨hi, htab⟩ := Lib.deBruijn32_at _ hk
  have hcell := hT.1 _ hi
  rw [htab] at hcell
  have key := tz32_key x _ hx hx0 hlow
  obtain ⟨k, hkk⟩ : ∃ k, Lib.ctz 32 x = k := ⟨_, rfl⟩
  rw [hkk] at hcell key hk ⊢
  obtain ⟨i, hii⟩ : ∃ i, 2 ^ k * 125613361 % 4294967296 / 134217728 = i := ⟨_, rfl⟩
  rw [hii] at hcell key
  have hi2 : i < 32 := by omega
  have t1 : ((x : Int) == 0) = false := by (simp <;> omega)
  have i1 : (0 : Int) ≤ i := by omega
  have i2 : (i : Int) < 32 := by omega
  clear hlow hi htab hii hkk hT hx0
  go_enter Tryd.func103, Tryd.ntmps103
  go_wp2_with (simp only [key])
  go_ret
  exact ⟨rfl, rfl⟩
/-- One limb of a number shifted to the right. -/
def shr1 (x y r : Nat) : Nat := x / 2 ^ r + (y % 2 ^ r) * 2 ^ (32 - r)
theorem shr1_run {x y r : Nat} (hx : x < 4294967296) (hr : r < 32) : ((y * 4294967296 + x) / 2 ^ r) % 4294967296 = shr1 x y r := by
  have e2 : (4294967296 : Nat) = 2 ^ (32 - r) * 2 ^ r := by rw [← Nat.pow_add, show 32 - r + r = 32 by omega]
  have e3 : (4294967296 : Nat) = 2 ^ r * 2 ^ (32 - r) := by rw [← Nat.pow_add, show r + (32 - r) = 32 by omega]
  have h1 : (y * 4294967296 + x) / 2 ^ r = y * 2 ^ (32 - r) + x / 2 ^ r := by
    conv => lhs; rw [e2]
    rw [← Nat.mul_assoc, Nat.add_comm, Nat.add_mul_div_right _ _ (Nat.pow_pos (by omega)), Nat.add_comm]
  have hxr : x / 2 ^ r < 2 ^ (32 - r) := by
    rw [Nat.div_lt_iff_lt_mul (Nat.pow_pos (by omega)), ← e2]
    exact hx
  have h2 : y * 2 ^ (32 - r) = 4294967296 * (y / 2 ^ r) + (y % 2 ^ r) * 2 ^ (32 - r) := by
    have := Nat.div_add_mod y (2 ^ r)
    conv => lhs; rw [← this]
    rw [Nat.add_mul, e3]
    congr 1
    rw [Nat.mul_assoc, Nat.mul_assoc, Nat.mul_comm (y / 2 ^ r)]
  have h3 : (y % 2 ^ r) * 2 ^ (32 - r) + x / 2 ^ r < 4294967296 := by
    have hy : y % 2 ^ r + 1 ≤ 2 ^ r := Nat.mod_lt _ (Nat.pow_pos (by omega))
    have := Nat.mul_le_mul_right (2 ^ (32 - r)) hy
    rw [← e3, Nat.add_mul] at this
    omega
  unfold shr1
  rw [h1, h2, Nat.add_assoc, Nat.mul_add_mod, Nat.mod_eq_of_lt h3, Nat.add_comm]
theorem drop_val {a : List Nat} {q : Nat} (ha : ∀ x ∈ a, x < 4294967296) : val 4294967296 (a.drop q) = val 4294967296 a / 4294967296 ^ q := by
  rcases Nat.lt_or_ge a.length q with h | h
  · rw [List.drop_eq_nil_of_le (by omega), val_nil, Nat.div_eq_of_lt]
    exact Nat.lt_of_lt_of_le (val_lt ha) (Nat.pow_le_pow_right (by omega) (by omega))
  · rw [val_drop_split 4294967296 a q, Nat.min_eq_left h, Nat.add_comm, Nat.mul_add_div (Nat.pow_pos (by omega)), Nat.div_eq_of_lt, Nat.add_zero]
    have := val_lt (l := a.take q) (fun x hx => ha x (List.mem_of_mem_take hx))
    rwa [List.length_take, Nat.min_eq_left h] at this
end Go.Proofs.YtdmjdpaehnhdoaaDoor
