/- Door: dyad.widen | Door: a sum under way; dyad.of | Door: dyad.of | Door: (*dyad.wide).below -/
import Derived.Deep.WholeRow
import Derived.Deep.RegionHeld3
import Derived.Deep.DeepCutAuto
import Derived.Deep.QuietTactic
import Derived.BigQuiet
import Derived.Test.YtdmjdpaehnhdoaaDoorDL
import Derived.Test.YtdmjdpaehnhdoaaDoorKA
namespace Go.Proofs.YtdmjdpaehnhdoaaDoor
open Go.ChangeShapes Go.WideShapes Go.ChangeAt Go.RowKit
set_option linter.unusedSimpArgs false
set_option linter.unusedVariables false
def ZW : Array Value := (ints .u32 (List.replicate 74 0)).toArray
theorem zeroW : (Tryd.prog.info? 108).map (fun i => (i.zero, i.size)) = some (some (.agg ZW), 74) := by kernel_rfl
theorem ints_size (k : IntKind) (l : List Nat) : (ints k l).toArray.size = l.length := by simp
theorem sizeW {L : List Nat} (h : L.length = 74) : (Tryd.prog.info? 108).map (·.size) = some (ints .u32 L).toArray.size := by rw [ints_size, h]; exact (zero_of_info zeroW).2
theorem ints_oneW (k : IntKind) (l : List Nat) : (ints k l).toArray.all (·.oneCell') = true := by
  rw [Array.all_eq_true']
  intro u hu
  exact ints_one k l u (by simpa using hu)
/-- A number under way, by value. -/
def WidP (V : Nat) (w : World) (en : Ending) (w' : World) : Prop := ∃ L : List Nat, en = .returned (.agg (ints .u32 L).toArray) ∧ L.length = 74 ∧ (∀ x ∈ L, x < 4294967296) ∧ val 4294967296 L = V ∧ Below w.heap.size w w'
set_option maxRecDepth 100000 in
set_option maxHeartbeats 8000000 in
theorem widen_any (neg : Bool) (A : Option Addr) (n c : Nat) (a : List Nat) (ex e k : Nat) (hke : ex + k = e) (hn : a.length = n) (hm : n ≤ 40) (hk : k ≤ 1024) (ha : ∀ x ∈ a, x < 4294967296) (w : World) (hR : Reads w w.heap.size 1 A n (ints .u32 a)) :
    Calls Tryd.prog 79 #[.agg #[.bool neg, .slice A n c, .int .i64 (ex : Int)], .int .i64 (e : Int)] w (WidP (val 4294967296 a * 2 ^ k) w) := by
  obtain ⟨q, hq⟩ : ∃ q, k / 32 = q := ⟨_, rfl⟩
  obtain ⟨r, hr⟩ : ∃ r, k % 32 = r := ⟨_, rfl⟩
  have hqI : (k : Int) / 32 = (q : Int) := by omega
  have hrI : (k : Int) % 32 = (r : Int) := by omega
  have hqI2 : (k : Int).tdiv 32 = (q : Int) := by rw [← hqI]; exact Int.tdiv_eq_ediv_of_nonneg (by omega)
  have hrI2 : (k : Int).tmod 32 = (r : Int) := by rw [← hrI]; exact Int.tmod_eq_emod_of_nonneg (by omega)
  have hr32 : r < 32 := by omega
  have hq10 : q ≤ 32 := by omega
  have hwk : IntKind.i64.wrap ((e : Int) - ex) = (k : Int) := by rw [show (e : Int) - ex = k by omega]; exact IntWalk.i64_in _ (by omega)
  have hwk2 : wrap64 ((e : Int) - ex) = (k : Int) := by rw [← IntWalk.i64_left]; exact hwk
  have hB0 := ((Below.refl w.heap.size w).alloc (Nat.le_refl _) (.cells #[.bool neg, .slice A n c, .int .i64 (ex : Int)] 25)).alloc (by simp) (.cells ZW 108)
  have hK0 : ∀ Z, Z = (ints .u32 (List.replicate 74 0)).toArray → Blk ((w.alloc (.cells #[.bool neg, .slice A n c, .int .i64 (ex : Int)] 25)).alloc (.cells Z 108)) (w.heap.size + 1) 108 (ints .u32 (List.replicate 74 0)).toArray := by
    rintro Z rfl
    have h := Blk.new (w.alloc (.cells #[.bool neg, .slice A n c, .int .i64 (ex : Int)] 25)) 108 (ints .u32 (List.replicate 74 0)).toArray
    rwa [World.size_alloc] at h
  have pa := pre_all 4294967296 a n (by omega)
  have hkk : 2 ^ k = 4294967296 ^ q * 2 ^ r := by rw [pow32, ← Nat.pow_add]; congr 1; omega
  have gn := Lib.hid hn
  have gkk := Lib.hid hkk
  have gpa := Lib.hid pa
  have hz := (zero_of_info zeroW).1
  clear hn hkk pa hq hr hqI hrI
  obtain ⟨Z, hZ⟩ : ∃ Z, ZW = Z := ⟨_, rfl⟩
  replace hK0 := hK0 Z (by rw [← hZ]; rfl)
  rw [hZ] at hB0 hz
  clear hZ
  go_enter Tryd.func79, Tryd.ntmps79
  go_wp2
  go_loopw [16] (fun i wr => ∃ (j : Nat) (L : List Nat), j ≤ n ∧ i = .int .i64 (j : Int) ∧ Hid (L.length = 74) ∧ Hid (∀ x ∈ L, x < 4294967296) ∧ Hid (∀ i, j + q + 1 ≤ i → L.getD i 0 = 0) ∧ L.getD (j + q) 0 < 2 ^ r ∧ Hid (val 4294967296 L = pre 4294967296 a j * 2 ^ k) ∧ Blk wr (w.heap.size + 1) 108 (ints .u32 L).toArray ∧ Below w.heap.size w wr) (fun i _ => n - (intOf i).toNat)
  case atStart => exact ⟨0, List.replicate 74 0, Nat.zero_le _, rfl, Lib.hid (by simp), Lib.hid (fun x hx => by rw [(List.mem_replicate.1 hx).2]; omega), Lib.hid (fun j _ => by rw [List.getD_eq_getElem?_getD, List.getElem?_replicate]; split <;> rfl), (by rw [List.getD_eq_getElem?_getD, List.getElem?_replicate]; split <;> exact Nat.pow_pos (by omega)), Lib.hid (by rw [pre_zero, Nat.zero_mul]; exact val_zero fun x hx => (List.mem_replicate.1 hx).2), hK0, hB0⟩
  case round =>
    clear hB0 hK0 hz
    obtain ⟨j, L, hj, rfl, hLl, hLb, hL0, hLh, hv, hK, hB⟩ := hrel
    by_cases hlt : j < n
    · obtain ⟨ad, rfl, hab, cA⟩ := at_ints gn.out (hR.below hB) hlt
      have xa := getD_lt (B := 4294967296) (by omega) ha j
      obtain ⟨x, hx⟩ : ∃ x, a.getD j 0 = x := ⟨_, rfl⟩
      rw [hx] at cA xa
      have hlen : j + q < L.length := by rw [hLl.out]; omega
      have zc : wr.cell? ⟨w.heap.size + 1, j + q, none⟩ = some (.int .u32 ((L.getD (j + q) 0 : Nat) : Int)) := by rw [hK.cell]; simp only [List.getElem?_toArray]; exact ints_at .u32 hlen
      have zf := hK.frozen (j + q)
      have zd : wr.cell? ⟨w.heap.size + 1, j + q + 1, none⟩ = some (.int .u32 ((L.getD (j + q + 1) 0 : Nat) : Int)) := by rw [hK.cell]; simp only [List.getElem?_toArray]; exact ints_at .u32 (by rw [hLl.out]; omega)
      rw [hL0.out (j + q + 1) (Nat.le_refl _)] at zd
      have zg := hK.frozen (j + q + 1)
      have zl := hK.lt
      obtain ⟨h, hh⟩ : ∃ h, L.getD (j + q) 0 = h := ⟨_, rfl⟩
      rw [hh] at zc hLh
      have i1 : (0 : Int) ≤ j := by omega
      have i2 : (j : Int) < n := by omega
      have i3 : (0 : Int) ≤ (j : Int) + q := by omega
      have i4 : (j : Int) + q < 74 := by omega
      have i5 : ((j : Int) + q).toNat = j + q := by omega
      have i6 : (0 : Int) ≤ (j : Int) + q + 1 := by omega
      have i7 : (j : Int) + q + 1 < 74 := by omega
      have i8 : ((j : Int) + q + 1).toNat = j + q + 1 := by omega
      obtain ⟨S, hS⟩ : ∃ S, x * 2 ^ r = S := ⟨_, rfl⟩
      have hSb : S < 4294967296 * 4294967296 := by
        rw [← hS]
        have h1 : 2 ^ r ≤ 2 ^ 31 := Nat.pow_le_pow_right (by omega) (by omega)
        exact Nat.lt_of_le_of_lt (Nat.mul_le_mul_left x h1) (by omega)
      have hor := shl_or (h := h) xa hr32 hLh
      have hhi := shl_hi (r := r) xa
      rw [hS] at hor hhi
      have wS : IntKind.u64.wrap ((x : Int) * 2 ^ r) = (S : Int) := by
        rw [show (x : Int) * 2 ^ r = (S : Int) by rw [← hS]; push_cast; rfl]
        exact IntWalk.u64_in _ (by omega)
      obtain ⟨lo, hlo⟩ : ∃ lo, S % 4294967296 = lo := ⟨_, rfl⟩
      obtain ⟨hi, hhd⟩ : ∃ hi, S / 4294967296 = hi := ⟨_, rfl⟩
      rw [hlo] at hor
      rw [hhd] at hhi
      have hhl : h < 4294967296 := Nat.lt_of_lt_of_le hLh (Nat.pow_le_pow_right (n := 2) (by omega) (show r ≤ 32 by omega))
      have hlol : lo < 4294967296 := by omega
      have hhil : hi < 4294967296 := by omega
      have hv1l : h + lo < 4294967296 := by rw [← hor]; exact Nat.or_lt_two_pow (n := 32) hhl hlol
      have o1 : bits BinOp.or .u32 (h : Int) ((S : Int) % 4294967296) = ((h + lo : Nat) : Int) := by
        rw [show (S : Int) % 4294967296 = (lo : Int) by omega, u32_or_nat h lo hhl hlol, hor]
      have o2 : bits BinOp.or .u32 0 ((S : Int) / 4294967296 % 4294967296) = (hi : Int) := by
        rw [show (S : Int) / 4294967296 % 4294967296 = (hi : Int) by omega]
        have := u32_or_nat 0 hi (by omega) hhil
        rw [Nat.zero_or] at this
        exact this
      have o4 : bits BinOp.or .u32 0 ((S : Int) / 4294967296) = (hi : Int) := by rw [← o2, show (S : Int) / 4294967296 % 4294967296 = (S : Int) / 4294967296 by omega]
      have hlen2 : j + q + 1 < (L.set (j + q) (h + lo)).length := by rw [List.length_set, hLl.out]; omega
      have s1 := val_set 4294967296 L (j + q) (h + lo) hlen
      rw [hh] at s1
      have s2 := val_set 4294967296 (L.set (j + q) (h + lo)) (j + q + 1) hi hlen2
      have hz0 : (L.set (j + q) (h + lo)).getD (j + q + 1) 0 = 0 := by
        rw [List.getD_eq_getElem?_getD, List.getElem?_set, if_neg (by omega), ← List.getD_eq_getElem?_getD]
        exact hL0.out _ (Nat.le_refl _)
      rw [hz0, Nat.mul_zero, Nat.add_zero, Nat.pow_succ] at s2
      have va := pre_succ 4294967296 a j
      rw [hx] at va
      have hv' : Hid (val 4294967296 ((L.set (j + q) (h + lo)).set (j + q + 1) hi) = pre 4294967296 a (j + 1) * 2 ^ k) := Lib.hid (by
        refine left_step s1 s2 (show lo + 4294967296 * hi = S by omega) ?_
        rw [va, Nat.add_mul, hv.out, gkk.out, Nat.pow_add, ← hS]
        congr 1
        rw [Nat.mul_assoc, Nat.mul_assoc, Nat.mul_left_comm x])
      have hLl' : Hid (((L.set (j + q) (h + lo)).set (j + q + 1) hi).length = 74) := Lib.hid (by rw [List.length_set, List.length_set]; exact hLl.out)
      have hLb' : Hid (∀ z ∈ (L.set (j + q) (h + lo)).set (j + q + 1) hi, z < 4294967296) := Lib.hid (by
        intro z hz
        rcases List.mem_or_eq_of_mem_set hz with h' | h'
        · rcases List.mem_or_eq_of_mem_set h' with h'' | h''
          · exact hLb.out z h''
          · omega
        · omega)
      have hL0' : Hid (∀ i, j + 1 + q + 1 ≤ i → ((L.set (j + q) (h + lo)).set (j + q + 1) hi).getD i 0 = 0) := Lib.hid (fun i hi' => by
        rw [List.getD_eq_getElem?_getD, List.getElem?_set, if_neg (by omega), List.getElem?_set, if_neg (by omega), ← List.getD_eq_getElem?_getD]
        exact hL0.out i (by omega))
      have hLh' : ((L.set (j + q) (h + lo)).set (j + q + 1) hi).getD (j + 1 + q) 0 < 2 ^ r := by
        rw [show j + 1 + q = j + q + 1 by omega, getD_set hlen2, if_pos rfl]
        exact hhi
      have hK1 := hK.set_ (j + q) (.int .u32 ((h + lo : Nat) : Int))
      rw [ints_set _ _ _ (by omega), Int.toNat_natCast] at hK1
      have hK2 := hK1.set_ (j + q + 1) (.int .u32 (hi : Int))
      rw [ints_set _ _ _ (by omega), Int.toNat_natCast] at hK2
      have hB2 := (hB.setCell (p := ⟨w.heap.size + 1, j + q, none⟩) (Nat.le_succ _) (.int .u32 ((h + lo : Nat) : Int))).setCell (p := ⟨w.heap.size + 1, j + q + 1, none⟩) (Nat.le_succ _) (.int .u32 (hi : Int))
      have o3 : ((h + lo : Nat) : Int) = (h : Int) + lo := by omega
      rw [o3] at o1 hK2 hB2
      clear hR ha hv hLl hLb hL0 hK hK1 hx hh hS hor hlo hhd s1 s2 hz0 va hlen hlen2 o3
      go_wp2
      go_roundw
      case rel => exact ⟨j + 1, (L.set (j + q) (h + lo)).set (j + q + 1) hi, by omega, by go_num, hLl', hLb', hL0', hLh', hv', hK2, hB2⟩
      case measure => simp [intOf] <;> omega
    · obtain rfl : j = n := by omega
      have hv2 := hv.out
      rw [gpa.out] at hv2
      have hsz := sizeW hLl.out
      have hone := ints_oneW .u32 L
      have hKs := hK.setRow (ints .u32 L).toArray
      have hBs := below_setRow (g := w.heap.size + 1) hB (by omega) (ints .u32 L).toArray
      have gLl := hLl.out
      have gLb := hLb.out
      obtain ⟨C, hC⟩ : ∃ C, (ints .u32 L).toArray = C := ⟨_, rfl⟩
      rw [hC] at hK hsz hone hKs hBs
      have gC := Lib.hid hC
      clear hC hv hLb hL0 hLh gn gkk gpa hR ha hLl hB
      go_wp2_with (first | (refine wpList_load_row rfl 108 _ rfl (w.heap.size + 1) rfl 108 C (0, 0) _ hK Tryd.underlying108 rfl hsz ?_) | (refine wpList_store_row rfl 108 _ _ rfl (w.heap.size + 1) C rfl rfl 108 C ?_ hsz rfl hone ?_; exact hK))
      refine bodyPost_ret (results_cell_row rfl _ _ (w.heap.size + 1) 108 C (0, 0) _ rfl hKs.row Tryd.underlying108 rfl hsz) rfl ?_
      exact ⟨L, by rw [gC.out], gLl, gLb, hv2, hBs⟩
end Go.Proofs.YtdmjdpaehnhdoaaDoor
namespace Go.Proofs.YtdmjdpaehnhdoaaDoor
open Go.ChangeShapes Go.WideShapes Go.ChangeAt Go.RowKit
set_option linter.unusedSimpArgs false
set_option linter.unusedVariables false
/-- A dyad under way: its sign, its exponent, its 74 limbs. -/
def sumC (neg : Bool) (e : Int) (L : List Nat) : Array Value := #[.bool neg, .slice none 0 0, .int .i64 e] ++ (ints .u32 L).toArray
theorem sum_size (neg : Bool) (e : Int) (L : List Nat) : (sumC neg e L).size = 3 + L.length := by unfold sumC; simp; omega
theorem sum_neg (neg : Bool) (e : Int) (L : List Nat) : (sumC neg e L)[0]? = some (.bool neg) := by unfold sumC; rw [Array.getElem?_append_left (by simp)]; rfl
theorem sum_exp (neg : Bool) (e : Int) (L : List Nat) : (sumC neg e L)[2]? = some (.int .i64 e) := by unfold sumC; rw [Array.getElem?_append_left (by simp)]; rfl
theorem sum_at (neg : Bool) (e : Int) {L : List Nat} {j : Nat} (h : j < L.length) : (sumC neg e L)[3 + j]? = some (.int .u32 ((L.getD j 0 : Nat) : Int)) := by
  unfold sumC
  rw [Array.getElem?_append_right (by simp)]
  simp only [List.size_toArray, List.length_cons, List.length_nil, List.getElem?_toArray]
  rw [show 3 + j - (0 + 1 + 1 + 1) = j by omega]
  exact ints_at .u32 h
theorem sum_set (neg : Bool) (e : Int) (L : List Nat) (j v : Nat) : (sumC neg e L).setIfInBounds (3 + j) (.int .u32 (v : Int)) = sumC neg e (L.set j v) := by
  unfold sumC
  rw [Array.setIfInBounds_append_right (by simp)]
  simp only [List.size_toArray, List.length_cons, List.length_nil]
  rw [show 3 + j - (0 + 1 + 1 + 1) = j by omega, ints_set _ _ _ (by omega), Int.toNat_natCast]
theorem sum_turn (neg b : Bool) (e : Int) (L : List Nat) : (sumC neg e L).setIfInBounds 0 (.bool b) = sumC b e L := by
  unfold sumC
  rw [Array.setIfInBounds_append_left (by simp)]
  rfl
theorem fold_set (off : Nat) : ∀ (l : List Value) (k : Nat) (cells : Array Value) (i : Nat), ((l.zipIdx k).foldl (fun (cs : Array Value) x => cs.setIfInBounds (off + x.2) x.1) cells)[i]? = if off + k ≤ i ∧ i < off + k + l.length ∧ i < cells.size then l[i - (off + k)]? else cells[i]?
  | [], k, cells, i => by simp; intro h1 h2; omega
  | v :: r, k, cells, i => by
    rw [List.zipIdx_cons, List.foldl_cons, fold_set off r (k + 1), Array.size_setIfInBounds, Array.getElem?_setIfInBounds]
    simp only [List.length_cons]
    by_cases h0 : off + k = i
    · subst h0
      rw [if_neg (by omega), if_pos rfl]
      by_cases hs : off + k < cells.size
      · rw [if_pos hs, if_pos (by omega)]
        simp
      · rw [if_neg hs, if_neg (by omega)]
        simp
        omega
    · rw [if_neg (show ¬ off + k = i from h0)]
      by_cases h1 : off + (k + 1) ≤ i ∧ i < off + (k + 1) + r.length ∧ i < cells.size
      · rw [if_pos h1, if_pos (by omega), show i - (off + k) = (i - (off + (k + 1))) + 1 by omega, List.getElem?_cons_succ]
      · rw [if_neg h1, if_neg (by omega)]
end Go.Proofs.YtdmjdpaehnhdoaaDoor
namespace Go.Proofs.YtdmjdpaehnhdoaaDoor
open Go.ChangeShapes Go.WideShapes Go.ChangeAt Go.RowKit
set_option linter.unusedSimpArgs false
set_option linter.unusedVariables false
theorem zeroS : Tryd.zeroCells128 = sumC false 0 (List.replicate 74 0) := by kernel_rfl
theorem fold_sum (neg : Bool) (e : Int) {L : List Nat} (h : L.length = 74) : (ints .u32 L).zipIdx.foldl (fun (cs : Array Value) x => cs.setIfInBounds (3 + x.snd) x.fst) (((Tryd.zeroCells128.setIfInBounds 0 (.bool neg)).setIfInBounds 1 (.slice none 0 0)).setIfInBounds 2 (.int .i64 e)) = sumC neg e L := by
  apply Array.ext_getElem?
  intro i
  have hs : (sumC false 0 (List.replicate 74 0)).size = 77 := by rw [sum_size]; simp
  rw [fold_set, zeroS]
  simp only [Array.size_setIfInBounds, Array.getElem?_setIfInBounds, hs, Nat.add_zero, List.length_map, h]
  by_cases h3 : i < 3
  · rw [if_neg (by omega)]
    have : i = 0 ∨ i = 1 ∨ i = 2 := by omega
    rcases this with rfl | rfl | rfl
    · simp [sum_neg neg e L]
    · unfold sumC; rw [Array.getElem?_append_left (by simp)]; simp
    · simp [sum_exp neg e L]
  · by_cases h4 : i < 77
    · rw [if_pos (by omega)]
      unfold sumC
      rw [Array.getElem?_append_right (by simp; omega)]
      simp
    · rw [if_neg (by omega), if_neg (by omega), if_neg (by omega), if_neg (by omega), Array.getElem?_eq_none (by rw [hs]; omega), Array.getElem?_eq_none (by rw [sum_size]; omega)]
/-- What dyad.of answers. -/
def SumP (neg : Bool) (e : Int) (V : Nat) (w : World) (en : Ending) (w' : World) : Prop := ∃ (g : Nat) (L : List Nat), en = .returned (.pointer (some ⟨g, 0, none⟩)) ∧ w.heap.size ≤ g ∧ Blk w' g 128 (sumC neg e L) ∧ L.length = 74 ∧ (∀ x ∈ L, x < 4294967296) ∧ val 4294967296 L = V ∧ Below w.heap.size w w'
set_option maxRecDepth 100000 in
set_option maxHeartbeats 8000000 in
theorem dof_any (neg : Bool) (A : Option Addr) (n c : Nat) (a : List Nat) (ex e k : Nat) (hke : ex + k = e) (hn : a.length = n) (hm : n ≤ 40) (hk : k ≤ 1024) (ha : ∀ x ∈ a, x < 4294967296) (w : World) (hR : Reads w w.heap.size 1 A n (ints .u32 a)) :
    Calls Tryd.prog 77 #[.agg #[.bool neg, .slice A n c, .int .i64 (ex : Int)], .int .i64 (e : Int)] w (SumP neg (e : Int) (val 4294967296 a * 2 ^ k) w) := by
  obtain ⟨V, hV⟩ : ∃ V, V = w.alloc (.cells #[.bool neg, .slice A n c, .int .i64 (ex : Int)] 25) := ⟨_, rfl⟩
  have hB : Below w.heap.size w V := by rw [hV]; exact (Below.refl _ _).alloc (Nat.le_refl _) _
  have kd : Blk V w.heap.size 25 #[.bool neg, .slice A n c, .int .i64 (ex : Int)] := by rw [hV]; exact Blk.new w _ _
  obtain ⟨U, hU⟩ : ∃ U, val 4294967296 a * 2 ^ k = U := ⟨_, rfl⟩
  have hc : ∀ w', Below V.heap.size V w' → Calls Tryd.prog 79 #[.agg #[.bool neg, .slice A n c, .int .i64 (ex : Int)], .int .i64 (e : Int)] w' (WidP U w') := fun w' h => by
    rw [← hU]
    exact widen_any neg A n c a ex e k hke hn hm hk ha w' ((hR.below (hB.trans (h.mono hB.size))).more (Nat.le_trans hB.size h.size))
  rw [hU]
  have SS : ∀ w', Below V.heap.size V w' → w'.cell? ⟨w.heap.size, 0, none⟩ = some (.bool neg) ∧ w'.cell? ⟨w.heap.size, 1, none⟩ = some (.slice A n c) ∧ w'.cell? ⟨w.heap.size, 2, none⟩ = some (.int .i64 (ex : Int)) := fun w' h => by
    have k1 := kd.below h kd.lt
    exact ⟨by rw [k1.cell]; rfl, by rw [k1.cell]; rfl, by rw [k1.cell]; rfl⟩
  clear hR ha hn hm hk hke hU kd
  have hVs : V.heap.size = w.heap.size + 1 := by rw [hV]; simp
  go_enter Tryd.func77, Tryd.ntmps77
  go_upto_region 1 with (fail)
  rw [← hV]
  clear hV
  have hBc : Below V.heap.size V V.drew := Below.drew (Below.refl V.heap.size V)
  go_cut [4] (fun s wx => ∃ (g : Nat) (L : List Nat), s = .pointer (some ⟨g, 0, none⟩) ∧ w.heap.size ≤ g ∧ Blk wx g 128 (sumC neg e L) ∧ L.length = 74 ∧ (∀ x ∈ L, x < 4294967296) ∧ val 4294967296 L = U ∧ Below V.heap.size V wx)
  case first =>
    go_region_held3 (fun w' => w'.cell? ⟨w.heap.size, 0, none⟩ = some (.bool neg) ∧ w'.cell? ⟨w.heap.size, 1, none⟩ = some (.slice A n c) ∧ w'.cell? ⟨w.heap.size, 2, none⟩ = some (.int .i64 (ex : Int))) (first | exact SS _ hBc | exact SS _ (hBc.alloc hBc.size _)) (first | (go_at_call 79; (with_reducible refine (hc _ hBc).mono ?_); rintro en w6 ⟨L, rfl, hLl, hLb, hLv, hb6⟩; have hBc := hBc.trans (hb6.mono hBc.size)))
    all_goals
      rw [fold_sum neg (e : Int) hLl]
      go_wp2_with fail
      go_meet
      exact ⟨w6.heap.size, L, rfl, by have := hBc.size; omega, Blk.new w6 _ _, hLl, hLb, hLv, hBc.alloc hBc.size _⟩
  case rest =>
    obtain ⟨g, L, rfl, hg, hk, hLl, hLb, hLv, hb⟩ := hcut
    go_wp2
    go_ret
    exact ⟨g, L, rfl, hg, hk, hLl, hLb, hLv, hB.trans (hb.mono hB.size)⟩
end Go.Proofs.YtdmjdpaehnhdoaaDoor
namespace Go.Proofs.YtdmjdpaehnhdoaaDoor
open Go.ChangeShapes Go.WideShapes Go.ChangeAt Go.RowKit
set_option linter.unusedSimpArgs false
set_option linter.unusedVariables false
set_option maxHeartbeats 4000000 in
theorem below_any (g o gb : Nat) (a b : List Nat) (hn : a.length = 74) (hn2 : b.length = 74) (ha : ∀ x ∈ a, x < 4294967296) (hb : ∀ x ∈ b, x < 4294967296) (w : World) (cL : ∀ i, i < 74 → w.cell? ⟨g, o + i, none⟩ = some (.int .u32 ((a.getD i 0 : Nat) : Int))) (cM : ∀ i, i < 74 → w.cell? ⟨gb, i, none⟩ = some (.int .u32 ((b.getD i 0 : Nat) : Int))) (R : Bool) (hRr : decide (val 4294967296 a < val 4294967296 b) = R) :
    Calls Tryd.prog 101 #[.pointer (some ⟨g, o, none⟩), .pointer (some ⟨gb, 0, none⟩)] w fun en w' => en = .returned (.bool R) ∧ ∃ m, w' = w.drewN m := by
  have pa := pre_all 4294967296 a 74 (by omega)
  have pb := pre_all 4294967296 b 74 (by omega)
  have lt1 : ∀ k, k < 74 → (∀ j, k + 1 ≤ j → j < 74 → a.getD j 0 = b.getD j 0) → a.getD k 0 < b.getD k 0 → R = true := fun k hk h0 h => by
    have := cmp_top (B := 4294967296) (by omega) ha hb hk (fun i h1 h2 => h0 i (by omega) h2) h
    rw [← hRr]; exact decide_eq_true (by omega)
  have gt1 : ∀ k, k < 74 → (∀ j, k + 1 ≤ j → j < 74 → a.getD j 0 = b.getD j 0) → b.getD k 0 < a.getD k 0 → R = false := fun k hk h0 h => by
    have := cmp_top (B := 4294967296) (by omega) hb ha hk (fun i h1 h2 => (h0 i (by omega) h2).symm) h
    rw [← hRr]; exact decide_eq_false (by omega)
  have eq1 : (∀ j, 0 ≤ j → j < 74 → a.getD j 0 = b.getD j 0) → R = false := fun h => by
    have := pre_eq (B := 4294967296) (n := 74) (fun i hi => h i (by omega) hi)
    rw [← hRr]; exact decide_eq_false (by omega)
  have g1 := Lib.hid lt1
  have g2 := Lib.hid gt1
  have g3 := Lib.hid eq1
  clear lt1 gt1 eq1 pa pb hRr ha hb hn hn2
  go_enter Tryd.func101, Tryd.ntmps101
  go_wp2
  go_loopw [5] (fun t wr => ∃ k m : Nat, k ≤ 74 ∧ t = .int .i64 ((k : Int) - 1) ∧ Hid (∀ j, k ≤ j → j < 74 → a.getD j 0 = b.getD j 0) ∧ wr = w.drewN m) (fun t _ => (intOf t + 1).toNat)
  case atStart => exact ⟨74, 0, Nat.le_refl _, rfl, Lib.hid (fun j h1 h2 => by omega), rfl⟩
  case round =>
    obtain ⟨k, m, hk, rfl, h0, rfl⟩ := hrel
    rcases Nat.eq_zero_or_pos k with rfl | hp
    · obtain rfl := g3.out h0.out
      clear g1 g2 g3 h0 cL cM
      go_wp2
      go_ret
      exact ⟨rfl, m, rfl⟩
    · obtain ⟨j, rfl⟩ : ∃ j, k = j + 1 := ⟨k - 1, by omega⟩
      have cA := cL j (by omega)
      have cA2 := cM j (by omega)
      have j2 : ((j + 1 : Nat) : Int) - 1 = j := by omega
      have i1 : (0 : Int) ≤ j := by omega
      have i2 : (j : Int) < 74 := by omega
      obtain ⟨x, hx⟩ : ∃ x, a.getD j 0 = x := ⟨_, rfl⟩
      obtain ⟨y, hy⟩ : ∃ y, b.getD j 0 = y := ⟨_, rfl⟩
      rw [hx] at cA
      rw [hy] at cA2
      rw [j2]
      rcases Nat.lt_trichotomy x y with h | h | h
      · obtain rfl := g1.out j (by omega) h0.out (by rw [hx, hy]; exact h)
        have t2 : ((x : Int) != y) = true := by simp; omega
        have t3 : decide ((x : Int) < y) = true := decide_eq_true (by omega)
        have t4 : (x != y) = true := by simp; omega
        have t5 : decide (x < y) = true := decide_eq_true h
        clear hx hy g1 g2 g3 h0 j2 cL cM
        go_wp2_with fail
        go_quiet (fail)
        go_wp2_with fail
        go_quiet (fail)
        go_wp2
        go_ret
        refine ⟨rfl, ?_⟩
        simp only [World.drewN_drewN]
        exact ⟨_, rfl⟩
      · subst h
        have h0' : Hid (∀ i, j ≤ i → i < 74 → a.getD i 0 = b.getD i 0) := Lib.hid (fun i h1 h2 => by
          rcases Nat.eq_or_lt_of_le h1 with rfl | h3
          · rw [hx, hy]
          · exact h0.out i (by omega) h2)
        have t2 : ((x : Int) != x) = false := by simp
        clear hx hy g1 g2 g3 h0 j2 cL cM
        go_wp2_with fail
        go_quiet (fail)
        go_wp2
        go_roundw
        case rel => exact ⟨j, _, by omega, by first | rfl | go_num, h0', rfl⟩
        case measure => simp [intOf] <;> omega
      · obtain rfl := g2.out j (by omega) h0.out (by rw [hx, hy]; exact h)
        have t2 : ((x : Int) != y) = true := by simp; omega
        have t3 : decide ((x : Int) < y) = false := decide_eq_false (by omega)
        have t4 : (x != y) = true := by simp; omega
        have t5 : decide (x < y) = false := decide_eq_false (by omega)
        clear hx hy g1 g2 g3 h0 j2 cL cM
        go_wp2_with fail
        go_quiet (fail)
        go_wp2_with fail
        go_quiet (fail)
        go_wp2
        go_ret
        refine ⟨rfl, ?_⟩
        simp only [World.drewN_drewN]
        exact ⟨_, rfl⟩
end Go.Proofs.YtdmjdpaehnhdoaaDoor
