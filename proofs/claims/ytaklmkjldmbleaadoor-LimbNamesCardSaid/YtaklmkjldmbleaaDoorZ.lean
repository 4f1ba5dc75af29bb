/- Limb: the program's products; copies; how many binary digits; shifts to the left. -/
import Derived.Test.YtaklmkjldmbleaaDoorW
namespace Go.Proofs.YtaklmkjldmbleaaDoor
open Go.ChangeShapes Go.WideShapes Go.ChangeAt Go.RowKit
set_option linter.unusedSimpArgs false
set_option linter.unusedVariables false
theorem val_set (B : Nat) : ∀ (l : List Nat) (i v : Nat), i < l.length → val B (l.set i v) + B ^ i * l.getD i 0 = val B l + B ^ i * v
  | [], i, v, h => by simp at h
  | x :: r, 0, v, _ => by simp [val]; omega
  | x :: r, i + 1, v, h => by
    have := val_set B r i v (by simpa using h)
    rw [List.set_cons_succ, val_cons, val_cons, List.getD_cons_succ, Nat.pow_succ]
    have h1 : B ^ i * B * r.getD i 0 = B * (B ^ i * r.getD i 0) := by rw [Nat.mul_comm (B ^ i) B, Nat.mul_assoc]
    have h2 : B ^ i * B * v = B * (B ^ i * v) := by rw [Nat.mul_comm (B ^ i) B, Nat.mul_assoc]
    rw [h1, h2]
    have h3 : B * (val B (r.set i v) + B ^ i * r.getD i 0) = B * (val B r + B ^ i * v) := by rw [this]
    rw [Nat.mul_add, Nat.mul_add] at h3
    omega
theorem mul_step {V P p c o xy s B : Nat} (hs : s = xy + o + c) {V' : Nat} (hV : V' + p * o = V + p * (s % B)) (h : V + p * c = P) : V' + p * B * (s / B) = P + p * xy := by
  have e : p * (s % B) + p * B * (s / B) = p * s := by rw [Nat.mul_assoc, ← Nat.mul_add, Nat.mod_add_div]
  rw [hs, Nat.mul_add, Nat.mul_add] at e
  rw [hs] at hV ⊢
  omega
set_option maxRecDepth 100000 in
set_option maxHeartbeats 8000000 in
theorem mul_any (A A2 : Option Addr) (n n2 c c2 : Nat) (a b : List Nat) (hn : a.length = n) (hn2 : b.length = n2) (ha : ∀ x ∈ a, x < 4294967296) (hb : ∀ x ∈ b, x < 4294967296) (w : World) (hR : Reads w w.heap.size 1 A n (ints .u32 a)) (hR2 : Reads w w.heap.size 1 A2 n2 (ints .u32 b)) :
    Calls Tryd.prog 21 #[.slice A n c, .slice A2 n2 c2] w (TOwn w (mulS a b)) := by
  have hB := (Below.refl w.heap.size w).alloc (Nat.le_refl _) (.cells #[.slice A n c, .slice A2 n2 c2] 22)
  cases hbo : both a b
  · have hq := ask2 A A2 n n2 c c2 a b hn hn2 w hR hR2 8 (by rw [hbo]; rfl)
    rw [show mulS a b = ([], 8) by unfold mulS; rw [hbo]; rfl]
    clear ha hb hn hn2 hR hR2 hbo
    go_enter Tryd.func21, Tryd.ntmps21
    go_wp2_with (go_at_call 29; (with_reducible refine hq.mono ?_); rintro e w1 ⟨rfl, rfl⟩)
    go_ret2
    exact onil hB 8
  have hq := ask2 A A2 n n2 c c2 a b hn hn2 w hR hR2 0 (by rw [hbo]; rfl)
  have hab := hbo
  unfold both at hab
  simp only [Bool.and_eq_true] at hab
  have la := mayB_len hab.1
  have lb := mayB_len hab.2
  have n40 : n ≤ 40 := by omega
  have m40 : n2 ≤ 40 := by omega
  rw [show mulS a b = overS (val 4294967296 a * val 4294967296 b) by unfold mulS; rw [if_pos hbo]]
  have hmk := run_z32 (n + n2) (by omega)
  rw [show ((n + n2 : Nat) : Int) = (n : Int) + n2 by omega] at hmk
  have hB2 := hB.alloc (by rw [World.size_alloc]; omega) (Z32 (n + n2))
  have hK2 := Blk.new (w.alloc (.cells #[.slice A n c, .slice A2 n2 c2] 22)) 45 (ints .u32 (List.replicate (n + n2) 0)).toArray
  obtain ⟨Z, hZ⟩ : ∃ Z, Z32 (n + n2) = Z := ⟨_, rfl⟩
  have hZc : Obj.cells (ints .u32 (List.replicate (n + n2) 0)).toArray 45 = Z := hZ
  rw [hZ] at hB2
  rw [hZc, World.size_alloc] at hK2
  simp only [hZ] at hmk
  obtain ⟨W2, hW2⟩ : ∃ W, W = (w.alloc (.cells #[.slice A n c, .slice A2 n2 c2] 22)).alloc Z := ⟨_, rfl⟩
  rw [← hW2] at hB2 hK2
  have pa := pre_all 4294967296 a n (by omega)
  have pb := pre_all 4294967296 b n2 (by omega)
  obtain ⟨vb, hvb⟩ : ∃ v, val 4294967296 b = v := ⟨_, rfl⟩
  have gn := Lib.hid hn
  have gn2 := Lib.hid hn2
  have gW := Lib.hid hW2
  have gpa := Lib.hid pa
  have gpb := Lib.hid pb
  have gvb := Lib.hid hvb
  clear hn hn2 hbo hab la lb hZ hZc pa pb hvb
  go_enter Tryd.func21, Tryd.ntmps21
  go_wp2_with (go_at_call 29; (with_reducible refine hq.mono ?_); rintro e w1 ⟨rfl, rfl⟩)
  rw [← hW2]
  clear hW2 hmk hq hB
  go_loopw [29] (fun i wr => ∃ (k : Nat) (L : List Nat), k ≤ n ∧ i = .int .i64 (k : Int) ∧ Hid (L.length = n + n2) ∧ Hid (∀ x ∈ L, x < 4294967296) ∧ Hid (∀ j, k + n2 ≤ j → L.getD j 0 = 0) ∧ Hid (val 4294967296 L = pre 4294967296 a k * vb) ∧ Blk wr (w.heap.size + 1) 45 (ints .u32 L).toArray ∧ Below w.heap.size w wr) (fun i _ => n - (intOf i).toNat)
  case atStart => exact ⟨0, List.replicate (n + n2) 0, Nat.zero_le _, rfl, Lib.hid (by simp), Lib.hid (fun x hx => by rw [(List.mem_replicate.1 hx).2]; omega), Lib.hid (fun j _ => by rw [List.getD_eq_getElem?_getD, List.getElem?_replicate]; split <;> rfl), Lib.hid (by rw [pre_zero, Nat.zero_mul]; exact val_zero (fun x hx => (List.mem_replicate.1 hx).2)), hK2, hB2⟩
  case round =>
    clear hB2 hK2
    obtain ⟨k, L, hk, rfl, hLl, hLb, hL0, hv, hK, hBr⟩ := hrel
    by_cases hlt : k < n
    · obtain ⟨ad, rfl, hab, cA⟩ := at_ints gn.out (hR.below hBr) hlt
      have xa := getD_lt (B := 4294967296) (by omega) ha k
      have va := pre_succ 4294967296 a k
      obtain ⟨x, hx⟩ : ∃ x, a.getD k 0 = x := ⟨_, rfl⟩
      rw [hx] at cA va xa
      have gva := Lib.hid va
      have i1 : (0 : Int) ≤ k := by omega
      have i2 : (k : Int) < n := by omega
      clear hx va
      go_wp2
      obtain ⟨wo, rfl⟩ : ∃ wo : World, wo = wr := ⟨_, rfl⟩
      go_loopw [10, 36] (fun cy i wr => ∃ (j q : Nat) (L : List Nat), j ≤ n2 ∧ i = .int .i64 (j : Int) ∧ cy = .int .u64 (q : Int) ∧ q < 4294967296 ∧ Hid (L.length = n + n2) ∧ Hid (∀ x ∈ L, x < 4294967296) ∧ Hid (∀ i, k + n2 ≤ i → L.getD i 0 = 0) ∧ Hid (val 4294967296 L + 4294967296 ^ (k + j) * q = pre 4294967296 a k * vb + 4294967296 ^ k * (x * pre 4294967296 b j)) ∧ Blk wr (w.heap.size + 1) 45 (ints .u32 L).toArray ∧ Below w.heap.size w wr) (fun _ i _ => n2 - (intOf i).toNat)
      case atStart => exact ⟨0, 0, L, Nat.zero_le _, rfl, rfl, by omega, hLl, hLb, hL0, Lib.hid (by rw [hv.out, pre_zero]; simp), hK, hBr⟩
      case round =>
        clear hLl hLb hL0 hv hK hBr cA
        obtain ⟨j, q, L, hj, rfl, rfl, hq, hLl, hLb, hL0, hv, hK, hBr⟩ := hrel
        by_cases hlt2 : j < n2
        · obtain ⟨ad2, rfl, hab2, cB⟩ := at_ints gn2.out (hR2.below hBr) hlt2
          have xb := getD_lt (B := 4294967296) (by omega) hb j
          have vb2 := pre_succ 4294967296 b j
          obtain ⟨y, hy⟩ : ∃ y, b.getD j 0 = y := ⟨_, rfl⟩
          rw [hy] at cB vb2 xb
          have hlen : k + j < L.length := by rw [hLl.out]; omega
          have xo := getD_lt (B := 4294967296) (by omega) hLb.out (k + j)
          have zc : wr.cell? ⟨w.heap.size + 1, k + j, none⟩ = some (.int .u32 ((L.getD (k + j) 0 : Nat) : Int)) := by rw [hK.cell]; simp only [List.getElem?_toArray]; exact ints_at .u32 hlen
          have hset := val_set 4294967296 L (k + j)
          obtain ⟨o, ho⟩ : ∃ o, L.getD (k + j) 0 = o := ⟨_, rfl⟩
          rw [ho] at zc xo
          simp only [ho] at hset
          have zf := hK.frozen (k + j)
          have zl := hK.lt
          obtain ⟨P, hP⟩ : ∃ P, x * y = P := ⟨_, rfl⟩
          have hPb : P ≤ 4294967295 * 4294967295 := by rw [← hP]; exact Nat.mul_le_mul (by omega) (by omega)
          have hPI : (x : Int) * (y : Int) = (P : Int) := by rw [← hP]; push_cast; rfl
          obtain ⟨s, hs⟩ : ∃ s, P + o + q = s := ⟨_, rfl⟩
          have hsb : s < 18446744073709551616 := by omega
          have hsI : (P : Int) + (o : Int) + (q : Int) = (s : Int) := by omega
          have hs1 := hset (s % 4294967296) hlen
          have hv' : Hid (val 4294967296 (L.set (k + j) (s % 4294967296)) + 4294967296 ^ (k + (j + 1)) * (s / 4294967296) = pre 4294967296 a k * vb + 4294967296 ^ k * (x * pre 4294967296 b (j + 1))) := Lib.hid (by
            have := mul_step (B := 4294967296) hs.symm hs1 hv.out
            have e1 : 4294967296 ^ k * (x * (pre 4294967296 b j + 4294967296 ^ j * y)) = 4294967296 ^ k * (x * pre 4294967296 b j) + 4294967296 ^ (k + j) * P := by
              rw [Nat.mul_add, Nat.mul_add, ← hP, Nat.pow_add, Nat.mul_left_comm x, ← Nat.mul_assoc (4294967296 ^ k) (4294967296 ^ j)]
            rw [show k + (j + 1) = (k + j) + 1 by omega, Nat.pow_succ, this, vb2, e1, Nat.add_assoc])
          have hLl' : Hid ((L.set (k + j) (s % 4294967296)).length = n + n2) := Lib.hid (by rw [List.length_set]; exact hLl.out)
          have hLb' : Hid (∀ z ∈ L.set (k + j) (s % 4294967296), z < 4294967296) := Lib.hid (by
            intro z hz
            rcases List.mem_or_eq_of_mem_set hz with h | h
            · exact hLb.out z h
            · omega)
          have hL0' : Hid (∀ i, k + n2 ≤ i → (L.set (k + j) (s % 4294967296)).getD i 0 = 0) := Lib.hid (fun i hi => by
            rw [List.getD_eq_getElem?_getD, List.getElem?_set, if_neg (by omega), ← List.getD_eq_getElem?_getD]
            exact hL0.out i hi)
          have hK' := hK.set_ (k + j) (.int .u32 ((s : Int) % 4294967296))
          rw [ints_set _ _ _ (by omega), show ((s : Int) % 4294967296).toNat = s % 4294967296 by omega] at hK'
          have hB' := hBr.setCell (p := ⟨w.heap.size + 1, k + j, none⟩) (by show w.heap.size ≤ w.heap.size + 1; omega) (.int .u32 ((s : Int) % 4294967296))
          have j1 : (0 : Int) ≤ j := by omega
          have j2 : (j : Int) < n2 := by omega
          have j3 : (0 : Int) ≤ (k : Int) + j := by omega
          have j4 : (k : Int) + j < (n : Int) + n2 := by omega
          have j5 : ((k : Int) + j).toNat = k + j := by omega
          have w1 : IntKind.u64.wrap (P : Int) = (P : Int) := IntWalk.u64_in _ (by omega)
          have w2 : IntKind.u64.wrap (s : Int) = (s : Int) := IntWalk.u64_in _ (by omega)
          have w3 : IntKind.u64.wrap ((P : Int) + o) = (P : Int) + o := IntWalk.u64_in _ (by omega)
          clear hlen hset hs1 hv hLl hLb hL0 hy vb2 ho hP hs hK hBr
          go_wp2
          go_roundw
          case rel => exact ⟨j + 1, s / 4294967296, L.set (k + j) (s % 4294967296), by omega, by go_num, by first | rfl | go_num | (congr 1; omega), by omega, hLl', hLb', hL0', hv', hK', hB'⟩
          case measure => simp [intOf] <;> omega
        · obtain rfl : j = n2 := by omega
          have hlen : k + j < L.length := by rw [hLl.out]; omega
          have ho := hL0.out (k + j) (Nat.le_refl _)
          have zc : wr.cell? ⟨w.heap.size + 1, k + j, none⟩ = some (.int .u32 ((L.getD (k + j) 0 : Nat) : Int)) := by rw [hK.cell]; simp only [List.getElem?_toArray]; exact ints_at .u32 hlen
          rw [ho] at zc
          have zf := hK.frozen (k + j)
          have zl := hK.lt
          have hset := val_set 4294967296 L (k + j) q hlen
          rw [ho, Nat.mul_zero, Nat.add_zero] at hset
          have hv' : Hid (val 4294967296 (L.set (k + j) q) = pre 4294967296 a (k + 1) * vb) := Lib.hid (by
            have h := hv.out
            rw [gpb.out, gvb.out] at h
            rw [hset, h, gva.out, Nat.add_mul, Nat.mul_assoc])
          have hLl' : Hid ((L.set (k + j) q).length = n + j) := Lib.hid (by rw [List.length_set]; exact hLl.out)
          have hLb' : Hid (∀ z ∈ L.set (k + j) q, z < 4294967296) := Lib.hid (by
            intro z hz
            rcases List.mem_or_eq_of_mem_set hz with h | h
            · exact hLb.out z h
            · omega)
          have hL0' : Hid (∀ i, k + 1 + j ≤ i → (L.set (k + j) q).getD i 0 = 0) := Lib.hid (fun i hi => by
            rw [List.getD_eq_getElem?_getD, List.getElem?_set, if_neg (by omega), ← List.getD_eq_getElem?_getD]
            exact hL0.out i (by omega))
          have hK' := hK.set_ (k + j) (.int .u32 (q : Int))
          rw [ints_set _ _ _ (by omega), Int.toNat_natCast] at hK'
          have hB' := hBr.setCell (p := ⟨w.heap.size + 1, k + j, none⟩) (by show w.heap.size ≤ w.heap.size + 1; omega) (.int .u32 (q : Int))
          have j3 : (0 : Int) ≤ (k : Int) + j := by omega
          have j4 : (k : Int) + j < (n : Int) + j := by omega
          have j5 : ((k : Int) + j).toNat = k + j := by omega
          have w1 : IntKind.u32.wrap (q : Int) = (q : Int) := IntWalk.u32_in _ (by omega)
          clear hlen ho hset hv hLl hLb hL0 hK hBr
          go_wp2
          go_roundw
          case rel => exact ⟨k + 1, L.set (k + j) q, by omega, by go_num, hLl', hLb', hL0', hv', hK', hB'⟩
          case measure => simp [intOf] <;> omega
    · obtain rfl : k = n := by omega
      have hv2 := hv.out
      rw [gpa.out, ← gvb.out] at hv2
      have hO := own_of_make hK (Nat.le_succ w.heap.size)
      simp only [List.size_toArray, List.length_map, hLl.out] at hO
      have hRo := hO.reads
      obtain ⟨m, hL⟩ : ∃ m, (dig 4294967296 (val 4294967296 a * val 4294967296 b)).length = m := ⟨_, rfl⟩
      obtain ⟨ht, hmk⟩ := dig_take (B := 4294967296) (by omega) hLb.out hv2 hL
      rw [hLl.out] at hmk
      have hres := hO.cut hmk
      rw [← List.map_take, ht] at hres
      by_cases h40 : m ≤ 40
      · have htold := told_ok (some ⟨w.heap.size + 1, 0, none⟩) (k + n2) (k + n2) wr.heap.size m L hLl.out (by omega) (Nat.le_refl _) hLb.out (by rw [hv2]; exact hL) h40 wr hRo
        have hov := Lib.hid (show overS (val 4294967296 a * val 4294967296 b) = (dig 4294967296 (val 4294967296 a * val 4294967296 b), 0) by unfold overS; rw [if_pos (by omega)])
        have gL := Lib.hid hL
        clear hv hv2 hLl hLb hL0 ha hb ht hO hRo hK gn gn2 gpa gpb gvb hL hR hR2
        go_wp2_with (go_at_call 30; (with_reducible refine htold.mono ?_); rintro e w7 ⟨rfl, rfl⟩)
        go_ret2
        rw [hov.out]
        exact ⟨some ⟨w.heap.size + 1, 0, none⟩, m, by simp only [gL.out]; rfl, by simp only [gL.out]; exact Nat.le_refl _, by simp only [gL.out]; exact hres, hBr⟩
      · have htold := told_over (some ⟨w.heap.size + 1, 0, none⟩) (k + n2) (k + n2) wr.heap.size m L hLl.out (by omega) (Nat.le_refl _) hLb.out (by rw [hv2]; exact hL) (by omega) wr hRo
        have hov := Lib.hid (show overS (val 4294967296 a * val 4294967296 b) = ([], 10) by unfold overS; rw [if_neg (by omega)])
        clear hv hv2 hLl hLb hL0 ha hb ht hO hRo hK gn gn2 gpa gpb gvb hL hres hR hR2
        go_wp2_with (go_at_call 30; (with_reducible refine htold.mono ?_); rintro e w7 ⟨rfl, rfl⟩)
        go_ret2
        rw [hov.out]
        exact onil hBr 10
end Go.Proofs.YtaklmkjldmbleaaDoor
