/- Limb's Door: the program's shift to the right. -/
import Derived.Test.YtaklmkjldmbleaaDoorH
namespace Go.Proofs.YtaklmkjldmbleaaDoor
open Go.ChangeShapes Go.WideShapes Go.ChangeAt Go.RowKit
set_option linter.unusedSimpArgs false
set_option linter.unusedVariables false
/-- One limb of a number shifted to the right. -/
def shr1 (x y r : Nat) : Nat := x / 2 ^ r + (y % 2 ^ r) * 2 ^ (32 - r)
theorem shr1_eq {x y r : Nat} (hr : r < 32) : shr1 x y r * 2 ^ r + x % 2 ^ r = x + 4294967296 * (y % 2 ^ r) := by
  unfold shr1
  have e2 : (4294967296 : Nat) = 2 ^ (32 - r) * 2 ^ r := by rw [← Nat.pow_add, show 32 - r + r = 32 by omega]
  have h := Nat.div_add_mod x (2 ^ r)
  rw [Nat.mul_comm] at h
  have e3 : y % 2 ^ r * 2 ^ (32 - r) * 2 ^ r = 4294967296 * (y % 2 ^ r) := by rw [Nat.mul_assoc, ← e2, Nat.mul_comm]
  rw [Nat.add_mul, e3]
  omega
theorem shr1_run {x y r : Nat} (hx : x < 4294967296) (hr : r < 32) : ((y * 4294967296 + x) / 2 ^ r) % 4294967296 = shr1 x y r := by
  have e2 : (4294967296 : Nat) = 2 ^ (32 - r) * 2 ^ r := by rw [← Nat.pow_add, show 32 - r + r = 32 by omega]
  have e3 : (4294967296 : Nat) = 2 ^ r * 2 ^ (32 - r) := by rw [← Nat.pow_add, show r + (32 - r) = 32 by omega]
  have h1 : (y * 4294967296 + x) / 2 ^ r = y * 2 ^ (32 - r) + x / 2 ^ r := by
    conv => lhs; rw [e2]
    rw [← Nat.mul_assoc, Nat.add_comm, Nat.add_mul_div_right _ _ (Nat.pow_pos (by omega)), Nat.add_comm]
  have hxr : x / 2 ^ r < 2 ^ (32 - r) := by
    rw [Nat.div_lt_iff_lt_mul (Nat.pow_pos (by omega)), ← e2]
    exact hx
  have h2 : y * 2 ^ (32 - r) = 4294967296 * (y / 2 ^ r) + (y % 2 ^ r) * 2 ^ (32 - r) := by
    have := Nat.div_add_mod y (2 ^ r)
    conv => lhs; rw [← this]
    rw [Nat.add_mul, e3]
    congr 1
    rw [Nat.mul_assoc, Nat.mul_assoc, Nat.mul_comm (y / 2 ^ r)]
  have h3 : (y % 2 ^ r) * 2 ^ (32 - r) + x / 2 ^ r < 4294967296 := by
    have hy : y % 2 ^ r + 1 ≤ 2 ^ r := Nat.mod_lt _ (Nat.pow_pos (by omega))
    have := Nat.mul_le_mul_right (2 ^ (32 - r)) hy
    rw [← e3, Nat.add_mul] at this
    omega
  unfold shr1
  rw [h1, h2, Nat.add_assoc, Nat.mul_add_mod, Nat.mod_eq_of_lt h3, Nat.add_comm]
theorem shr1_lt {x y r : Nat} (hx : x < 4294967296) (hr : r < 32) : shr1 x y r < 4294967296 := by rw [← shr1_run hx hr]; exact Nat.mod_lt _ (by omega)
theorem shr_step {V P c k r s x y : Nat} (hs : s * 2 ^ r + x % 2 ^ r = x + 4294967296 * (y % 2 ^ r)) (h : V * 2 ^ r + c = P + 4294967296 ^ k * (x % 2 ^ r)) : (V + 4294967296 ^ k * s) * 2 ^ r + c = P + 4294967296 ^ k * x + 4294967296 ^ (k + 1) * (y % 2 ^ r) := by
  have := congrArg (4294967296 ^ k * ·) hs
  simp only [Nat.mul_add] at this
  rw [Nat.add_mul, Nat.pow_succ, Nat.mul_assoc, Nat.mul_assoc]
  omega
theorem shr_end {V r v x : Nat} (h : V * 2 ^ r + x % 2 ^ r = v) : V = v / 2 ^ r := by
  rw [← h, Nat.add_comm, Nat.add_mul_div_right _ _ (Nat.pow_pos (by omega)), Nat.div_eq_of_lt (Nat.mod_lt _ (Nat.pow_pos (by omega))), Nat.zero_add]
theorem drop_val {a : List Nat} {q : Nat} (ha : ∀ x ∈ a, x < 4294967296) : val 4294967296 (a.drop q) = val 4294967296 a / 4294967296 ^ q := by
  rcases Nat.lt_or_ge a.length q with h | h
  · rw [List.drop_eq_nil_of_le (by omega), val_nil, Nat.div_eq_of_lt]
    exact Nat.lt_of_lt_of_le (val_lt ha) (Nat.pow_le_pow_right (by omega) (by omega))
  · rw [val_drop_split 4294967296 a q, Nat.min_eq_left h, Nat.add_comm, Nat.mul_add_div (Nat.pow_pos (by omega)), Nat.div_eq_of_lt, Nat.add_zero]
    have := val_lt (l := a.take q) (fun x hx => ha x (List.mem_of_mem_take hx))
    rwa [List.length_take, Nat.min_eq_left h] at this
set_option maxRecDepth 100000 in
set_option maxHeartbeats 8000000 in
theorem Right_any (A : Option Addr) (n c : Nat) (a : List Nat) (k : Int) (hk64 : k < 9223372036854775808) (hn : a.length = n) (hnc : n ≤ c) (ha : ∀ x ∈ a, x < 4294967296) (w : World) (hR : Reads w w.heap.size 1 A n (ints .u32 a)) :
    Calls Tryd.prog 11 #[.slice A n c, .int .i64 k] w (TOwn w (rightS a k)) := by
  have hB := (Below.refl w.heap.size w).alloc (Nat.le_refl _) (.cells #[.slice A n c] 22)
  cases hbo : mayB a
  · have hq := ask1 A n c a hn w hR 8 (by rw [hbo]; rfl)
    rw [show rightS a k = ([], 8) by unfold rightS; rw [hbo]; rfl]
    clear ha hn hR hbo
    go_enter Tryd.func11, Tryd.ntmps11
    go_wp2_with (go_at_call 29; (with_reducible refine hq.mono ?_); rintro e w1 ⟨rfl, rfl⟩)
    go_ret2
    exact onil hB 8
  have hq := ask1 A n c a hn w hR 0 (by rw [hbo]; rfl)
  by_cases hk0 : k < 0
  · rw [show rightS a k = ([], 2) by unfold rightS; rw [if_pos hbo, if_pos hk0]]
    have t1 : decide (k < 0) = true := decide_eq_true hk0
    clear ha hn hR hbo
    go_enter Tryd.func11, Tryd.ntmps11
    go_wp2_with (go_at_call 29; (with_reducible refine hq.mono ?_); rintro e w1 ⟨rfl, rfl⟩)
    go_ret2
    exact onil hB 2
  have t1 : decide (k < 0) = false := decide_eq_false hk0
  rw [show rightS a k = (dig 4294967296 (val 4294967296 a / 2 ^ k.toNat), 0) by unfold rightS; rw [if_pos hbo, if_neg hk0]]
  obtain ⟨k, rfl⟩ : ∃ j : Nat, k = (j : Int) := ⟨k.toNat, by omega⟩
  rw [Int.toNat_natCast]
  have n40 : n ≤ 40 := by have := mayB_len hbo; omega
  obtain ⟨q, hq'⟩ : ∃ q, k / 32 = q := ⟨_, rfl⟩
  obtain ⟨r, hr'⟩ : ∃ r, k % 32 = r := ⟨_, rfl⟩
  have hqI : (k : Int) / 32 = (q : Int) := by omega
  have hrI : (k : Int) % 32 = (r : Int) := by omega
  have hqI2 : (k : Int).tdiv 32 = (q : Int) := by rw [← hqI]; exact Int.tdiv_eq_ediv_of_nonneg (by omega)
  have hrI2 : (k : Int).tmod 32 = (r : Int) := by rw [← hrI]; exact Int.tmod_eq_emod_of_nonneg (by omega)
  have hr32 : r < 32 := by omega
  have hq62 : q < 288230376151711744 := by omega
  have hkk : 2 ^ k = 4294967296 ^ q * 2 ^ r := by rw [pow32, ← Nat.pow_add]; congr 1; omega
  have hval : val 4294967296 a / 2 ^ k = val 4294967296 (a.drop q) / 2 ^ r := by rw [hkk, drop_val ha, Nat.div_div_eq_div_mul]
  rw [hval]
  obtain ⟨W1, hW1⟩ : ∃ W, W = w.alloc (.cells #[.slice A n c] 22) := ⟨_, rfl⟩
  rw [← hW1] at hB hq
  by_cases hqn : n ≤ q
  · rw [List.drop_eq_nil_of_le (by omega), val_nil, Nat.zero_div, dig_zero]
    have t2 : decide ((n : Int) ≤ q) = true := decide_eq_true (by omega)
    have t3 : decide (n ≤ q) = true := decide_eq_true (by omega)
    clear ha hn hR hbo hkk hval hq' hr'
    go_enter Tryd.func11, Tryd.ntmps11
    go_wp2_with fail
    rw [← hW1]
    clear hW1
    refine hq.mono ?_
    rintro e w1 ⟨rfl, rfl⟩
    clear hq
    go_wp2
    go_ret2
    exact onil hB 0
  have t2 : decide ((n : Int) ≤ q) = false := decide_eq_false (by omega)
  have t3 : decide (n ≤ q) = false := decide_eq_false (by omega)
  have hRq := hR.below hB
  obtain ⟨ad, rfl, _, _⟩ := hRq.2 (by omega)
  have hR2 := hRq.cut (k := q) (cap := c) (by omega) hnc
  rw [if_neg (by omega), Nat.mul_one] at hR2
  clear hRq hR
  obtain ⟨n', hn'⟩ : ∃ n', n - q = n' := ⟨_, rfl⟩
  have ha' : ∀ x ∈ a.drop q, x < 4294967296 := fun x hx => ha x (List.mem_of_mem_drop hx)
  have hl' : (a.drop q).length = n' := by rw [List.length_drop]; omega
  rw [show (ints IntKind.u32 a).drop q = ints .u32 (a.drop q) by simp [ints]] at hR2
  rw [hn'] at hR2
  obtain ⟨a', hae⟩ : ∃ a', a.drop q = a' := ⟨_, rfl⟩
  rw [hae] at ha' hl' hR2 ⊢
  have i1 : (0 : Int) ≤ q := by omega
  have i2 : (q : Int) ≤ n := by omega
  have i3 : (n : Int) - q = n' := by omega
  have hn'0 : 0 < n' := by omega
  have hmk := run_z32 n' (by omega)
  have hB0 := hB.alloc hB.size (Z32 n')
  have hK0 : Blk (W1.alloc (Z32 n')) W1.heap.size 45 (ints .u32 (List.replicate n' 0)).toArray := Blk.new W1 45 _
  have hzz := hB.size
  obtain ⟨Z, hZ⟩ : ∃ Z, Z32 n' = Z := ⟨_, rfl⟩
  rw [hZ] at hB0 hK0
  simp only [hZ] at hmk
  have pa := pre_all 4294967296 a' n' (by omega)
  obtain ⟨m, hL⟩ : ∃ m, (dig 4294967296 (val 4294967296 a' / 2 ^ r)).length = m := ⟨_, rfl⟩
  have hcb := fun (j : Nat) (h : j ≤ 100000) (w' : World) (hw : Below w.heap.size w w') (hR : Reads w' w.heap.size 1 (some (ad.add q)) n' (ints .u32 a')) => lim_at (some (ad.add q)) n' (c - q) w.heap.size j a' hl' (by omega) h w' hR
  have gn := Lib.hid hl'
  have gL := Lib.hid hL
  have hRr : ∀ w', Below W1.heap.size W1 w' → Reads w' w.heap.size 1 (some (ad.add q)) n' (ints .u32 a') := fun w' h => hR2.below (h.mono hzz)
  have hb0 : Below W1.heap.size W1 (W1.alloc Z) := (Below.refl _ _).alloc (Nat.le_refl _) Z
  clear ha hn hbo hkk hval hq' hr' hae
  go_enter Tryd.func11, Tryd.ntmps11
  go_wp2_with fail
  rw [← hW1]
  clear hW1
  refine hq.mono ?_
  rintro e w1 ⟨rfl, rfl⟩
  clear hq
  go_wp2_with fail
  clear hZ hL hl' hR2
  go_wp2
  go_loopw [35] (fun i wr => ∃ (k : Nat) (L : List Nat), k ≤ n' ∧ i = .int .i64 (k : Int) ∧ Hid (L.length = n') ∧ (∀ x ∈ L, x < 4294967296) ∧ Hid (pre 4294967296 L k * 2 ^ r + a'.getD 0 0 % 2 ^ r = pre 4294967296 a' k + 4294967296 ^ k * (a'.getD k 0 % 2 ^ r)) ∧ Blk wr W1.heap.size 45 (ints .u32 L).toArray ∧ Below W1.heap.size W1 wr) (fun i _ => n' - (intOf i).toNat)
  case atStart => exact ⟨0, List.replicate n' 0, Nat.zero_le _, rfl, Lib.hid (by simp), (fun x hx => by rw [(List.mem_replicate.1 hx).2]; omega), Lib.hid (by simp [pre_zero]), hK0, hb0⟩
  case round =>
    clear hmk hB0 hK0 hb0
    obtain ⟨k, L, hk, rfl, hLl, hLb, hv, hK, hBr⟩ := hrel
    have hz := hBr.size
    by_cases hlt : k < n'
    · obtain ⟨ad', hade, hab, cA⟩ := at_ints gn.out (hRr wr hBr) hlt
      have xa := getD_lt (B := 4294967296) (by omega) ha' k
      have xb := getD_lt (B := 4294967296) (by omega) ha' (k + 1)
      have va := pre_succ 4294967296 a' k
      have cb := fun w' (h : Below W1.heap.size W1 w') => hcb (k + 1) (by omega) w' (hB.trans (h.mono hzz)) (hRr w' h)
      have SS : ∀ w', Below W1.heap.size W1 w' → w'.cell? ((ad.add q).add k) = some (.int .u32 ((a'.getD k 0 : Nat) : Int)) := fun w' h => by
        obtain ⟨ad2, e, _, c⟩ := at_ints gn.out (hRr w' h) hlt
        injection e with e
        rw [e]
        exact c
      clear hade cA
      have zl := hK.lt
      obtain ⟨x, hx⟩ : ∃ x, a'.getD k 0 = x := ⟨_, rfl⟩
      obtain ⟨y, hy⟩ : ∃ y, a'.getD (k + 1) 0 = y := ⟨_, rfl⟩
      rw [hx] at va xa
      rw [hy] at xb
      simp only [hx] at SS
      simp only [hy, Int.natCast_add, Int.natCast_one] at cb
      have o1 : bits BinOp.or .u64 ((y : Int) * 4294967296) (x : Int) = ((y * 4294967296 + x : Nat) : Int) := by
        have h1 := u64_or_nat (y * 4294967296) x (by omega) (by omega)
        have h2 : y * 4294967296 ||| x = y * 4294967296 + x := by
          have := (Nat.two_pow_add_eq_or_of_lt (i := 32) xa y).symm
          rw [Nat.mul_comm] at this
          exact this
        rw [h2] at h1
        rw [← h1, show ((y * 4294967296 : Nat) : Int) = (y : Int) * 4294967296 by omega]
      obtain ⟨S, hS⟩ : ∃ S, y * 4294967296 + x = S := ⟨_, rfl⟩
      rw [hS] at o1
      obtain ⟨s, hs⟩ : ∃ s, shr1 x y r = s := ⟨_, rfl⟩
      have hsl : s < 4294967296 := by rw [← hs]; exact shr1_lt xa hr32
      have hse := shr1_eq (x := x) (y := y) hr32
      have hsr := shr1_run (x := x) (y := y) xa hr32
      rw [hs] at hse hsr
      have hv' : Hid (pre 4294967296 (L.set k s) (k + 1) * 2 ^ r + a'.getD 0 0 % 2 ^ r = pre 4294967296 a' (k + 1) + 4294967296 ^ (k + 1) * (a'.getD (k + 1) 0 % 2 ^ r)) := Lib.hid (by
        have := hv.out
        rw [hx] at this
        rw [va, hy, pre_set_at (by rw [hLl.out]; exact hlt)]
        exact shr_step hse this)
      have hLb' : ∀ z ∈ L.set k s, z < 4294967296 := by
        intro z hz
        rcases List.mem_or_eq_of_mem_set hz with h | h
        · exact hLb z h
        · omega
      have hLl' : Hid ((L.set k s).length = n') := Lib.hid (by rw [List.length_set]; exact hLl.out)
      have zc : wr.cell? ⟨W1.heap.size, k, none⟩ = some (.int .u32 ((L.getD k 0 : Nat) : Int)) := by rw [hK.cell]; simp only [List.getElem?_toArray]; exact ints_at .u32 (by rw [hLl.out]; exact hlt)
      obtain ⟨u, hu⟩ : ∃ u, L.getD k 0 = u := ⟨_, rfl⟩
      rw [hu] at zc
      have zf := hK.frozen k
      have hK' := hK.set_ k (.int .u32 (s : Int))
      rw [ints_set _ _ _ (by omega), Int.toNat_natCast] at hK'
      have hB' := (hBr.setCell (p := ⟨W1.heap.size, k, none⟩) (Nat.le_refl _) (.int .u32 (s : Int)))
      have hk40 : k < 40 := by omega
      have hw1 : IntKind.i64.wrap ((k : Int) + 1) = (k : Int) + 1 := IntWalk.i64_in _ (by omega)
      have hw2 : IntKind.u64.wrap ((y : Int) * 4294967296) = (y : Int) * 4294967296 := IntWalk.u64_in _ (by omega)
      have i4 : (0 : Int) ≤ k := by omega
      have i5 : (k : Int) < n' := by omega
      have hBd : Below W1.heap.size W1 wr.drew := Below.drew hBr
      rw [hS] at hsr
      have hS64 : S < 18446744073709551616 := by omega
      obtain ⟨T, hT⟩ : ∃ T, S / 2 ^ r = T := ⟨_, rfl⟩
      rw [hT] at hsr
      have hTI : (S : Int) / 2 ^ r = (T : Int) := by rw [← hT]; push_cast; rfl
      have hsI : (T : Int) % 4294967296 = (s : Int) := by omega
      clear hcb hx hy va hv hLl hLb pa hs hu ha' hK hse hRr hT hS
      go_wp2_with fail
      go_region_held3 (fun w' => w'.cell? ((ad.add q).add k) = some (.int .u32 (x : Int))) (first | exact SS _ hBd | exact SS _ (Below.drew hB')) (first
        | (go_at_call 36; (with_reducible refine (cb _ hBd).mono ?_); rintro e w' ⟨rfl, rfl⟩))
      go_wp2
      go_roundw
      case rel => exact ⟨k + 1, L.set k s, by omega, by go_num, hLl', hLb', hv', hK'.drew, Below.drew hB'⟩
      case measure => simp [intOf] <;> omega
    · obtain rfl : k = n' := by omega
      have hv2 := hv.out
      have pL := pre_all 4294967296 L k (by rw [hLl.out]; exact Nat.le_refl _)
      have hg0 : a'.getD k 0 = 0 := by rw [List.getD_eq_getElem?_getD, List.getElem?_eq_none (by rw [gn.out]; exact Nat.le_refl _)]; rfl
      rw [pa, pL, hg0, Nat.zero_mod, Nat.mul_zero, Nat.add_zero] at hv2
      have hv3 := shr_end hv2
      obtain ⟨ht, hmk⟩ := dig_take (B := 4294967296) (by omega) hLb hv3 gL.out
      rw [hLl.out] at hmk
      have hO := (own_of_make hK (Nat.le_refl _))
      simp only [List.size_toArray, List.length_map, hLl.out] at hO
      have hcut := cut_any (some ⟨W1.heap.size, 0, none⟩) k k wr.heap.size L hLl.out (by omega) (Nat.le_refl _) hLb wr hO.reads m (by rw [hv3]; exact gL.out)
      have hres := hO.cut hmk
      rw [← List.map_take, ht] at hres
      clear hcb hv hv2 hv3 hLl hLb ha' pa ht hO gn hK pL hRr
      go_wp2_with (go_at_call 37; (with_reducible refine hcut.mono ?_); rintro e w' ⟨rfl, rfl⟩)
      go_ret2
      exact ⟨some ⟨W1.heap.size, 0, none⟩, m, by simp only [gL.out]; rfl, by simp only [gL.out]; exact Nat.le_refl _, by simp only [gL.out]; exact hres.base_le hzz, hB.trans (hBr.mono hzz)⟩
end Go.Proofs.YtaklmkjldmbleaaDoor
