/- Limb: the program's answers: errors, how two stand, a number's limbs, differences. -/
import Derived.Test.YtaklmkjldmbleaaDoorT
namespace Go.Proofs.YtaklmkjldmbleaaDoor
open Go.ChangeShapes Go.WideShapes Go.ChangeAt Go.RowKit
set_option linter.unusedSimpArgs false
set_option linter.unusedVariables false
def TOwn (w : World) (R : List Nat × Int) (en : Ending) (w' : World) : Prop :=
  ∃ A c, en = .returned (.tuple #[.slice A R.1.length c, .int .i64 R.2]) ∧ R.1.length ≤ c ∧ OwnR w' w.heap.size 45 A R.1.length (ints .u32 R.1) ∧ Below w.heap.size w w'
theorem onil {w w' : World} (hb : Below w.heap.size w w') (e : Int) : TOwn w ([], e) (.returned (.tuple #[.slice none 0 0, .int .i64 e])) w' := ⟨none, 0, rfl, Nat.le_refl _, OwnR.none_, hb⟩
theorem ask2E (a b : List Nat) : askE [!mayB a, !mayB b] = if both a b = true then 0 else 8 := by
  unfold askE both anyB
  cases mayB a <;> cases mayB b <;> rfl
/-- Two are asked. -/
theorem ask2 (A A2 : Option Addr) (n n2 c c2 : Nat) (a b : List Nat) (hn : a.length = n) (hn2 : b.length = n2) (W : World) (hR : Reads W W.heap.size 1 A n (ints .u32 a)) (hR2 : Reads W W.heap.size 1 A2 n2 (ints .u32 b)) (E : Int) (hE : (if both a b = true then 0 else 8) = E) :
    Calls Tryd.prog 29 #[.slice (some ⟨W.heap.size, 0, none⟩) 2 2] (W.alloc (.cells #[.slice A n c, .slice A2 n2 c2] 22)) fun en w' => en = .returned (.int .i64 E) ∧ W.alloc (.cells #[.slice A n c, .slice A2 n2 c2] 22) = w' := by
  rw [← hE, ← ask2E]
  refine asked_any (some ⟨W.heap.size, 0, none⟩) 2 2 (W.heap.size + 1) [.slice A n c, .slice A2 n2 c2] [!mayB a, !mayB b] rfl (by omega) _ (reads_new W [.slice A n c, .slice A2 n2 c2] 22 2 rfl) ?_
  intro k v b' hv hb
  rcases k with _ | _ | k
  · injection hv with hv
    injection hb with hb
    subst hv hb
    exact asked1 A n c W.heap.size a hn _ (hR.alloc (Nat.le_refl _) _)
  · injection hv with hv
    injection hb with hb
    subst hv hb
    exact asked1 A2 n2 c2 W.heap.size b hn2 _ (hR2.alloc (Nat.le_refl _) _)
  · simp at hv
theorem told_ok (A : Option Addr) (n c B m : Nat) (l : List Nat) (hn : l.length = n) (hm : n ≤ 100000) (hnc : n ≤ c) (hl : ∀ x ∈ l, x < 4294967296) (hL : (dig 4294967296 (val 4294967296 l)).length = m) (h40 : m ≤ 40) (w : World) (hR : Reads w B 1 A n (ints .u32 l)) :
    Calls Tryd.prog 30 #[.slice A n c] w fun en w' => en = .returned (.tuple #[.slice A m m, .int .i64 0]) ∧ w = w' := by
  have hc := cut_any A n c B l hn hm hnc hl w hR m hL
  have t1 : decide ((40 : Int) < m) = false := decide_eq_false (by omega)
  have t2 : decide (40 < m) = false := decide_eq_false (by omega)
  clear hn hl hL hR
  go_enter Tryd.func30, Tryd.ntmps30
  go_wp2_with (go_at_call 37; refine hc.mono ?_; rintro e w' ⟨rfl, rfl⟩)
  go_ret2
  exact ⟨rfl, rfl⟩
theorem told_over (A : Option Addr) (n c B m : Nat) (l : List Nat) (hn : l.length = n) (hm : n ≤ 100000) (hnc : n ≤ c) (hl : ∀ x ∈ l, x < 4294967296) (hL : (dig 4294967296 (val 4294967296 l)).length = m) (h40 : 40 < m) (w : World) (hR : Reads w B 1 A n (ints .u32 l)) :
    Calls Tryd.prog 30 #[.slice A n c] w fun en w' => en = .returned (.tuple #[.slice none 0 0, .int .i64 10]) ∧ w = w' := by
  have hc := cut_any A n c B l hn hm hnc hl w hR m hL
  have t1 : decide ((40 : Int) < m) = true := decide_eq_true (by omega)
  have t2 : decide (40 < m) = true := decide_eq_true (by omega)
  clear hn hl hL hR
  go_enter Tryd.func30, Tryd.ntmps30
  go_wp2_with (go_at_call 37; refine hc.mono ?_; rintro e w' ⟨rfl, rfl⟩)
  go_ret2
  exact ⟨rfl, rfl⟩
section
variable (A A2 : Option Addr) (n n2 c c2 : Nat) (a b : List Nat) (hn : a.length = n) (hn2 : b.length = n2) (ha : ∀ x ∈ a, x < 4294967296) (hb : ∀ x ∈ b, x < 4294967296) (w : World) (hR : Reads w w.heap.size 1 A n (ints .u32 a)) (hR2 : Reads w w.heap.size 1 A2 n2 (ints .u32 b))
include hn hn2 ha hb hR hR2 in
set_option maxHeartbeats 4000000 in
theorem cmp_any :
    Calls Tryd.prog 24 #[.slice A n c, .slice A2 n2 c2] w (CPost w (cmpS a b)) := by
  have hB := (Below.refl w.heap.size w).alloc (Nat.le_refl _) (.cells #[.slice A n c, .slice A2 n2 c2] 22)
  cases hbo : both a b
  · have hq := ask2 A A2 n n2 c c2 a b hn hn2 w hR hR2 8 (by rw [hbo]; rfl)
    rw [show cmpS a b = (0, 8) by unfold cmpS; rw [hbo]; rfl]
    clear ha hb hn hn2 hR hR2 hbo
    go_enter Tryd.func24, Tryd.ntmps24
    go_wp2_with (go_at_call 29; (with_reducible refine hq.mono ?_); rintro e w1 ⟨rfl, rfl⟩)
    go_ret2
    exact ⟨rfl, hB⟩
  have hq := ask2 A A2 n n2 c c2 a b hn hn2 w hR hR2 0 (by rw [hbo]; rfl)
  have hab := hbo
  unfold both at hab
  simp only [Bool.and_eq_true] at hab
  have ho := order_any A A2 n n2 c c2 w.heap.size w.heap.size a b hn hn2 (by have := mayB_len hab.1; omega) (by have := mayB_len hab.2; omega) ha hb (mayB_canon hab.1) (mayB_canon hab.2) _ (hR.alloc (Nat.le_refl _) (.cells #[.slice A n c, .slice A2 n2 c2] 22)) (hR2.alloc (Nat.le_refl _) (.cells #[.slice A n c, .slice A2 n2 c2] 22))
  rw [show cmpS a b = (cmpI (val 4294967296 a) (val 4294967296 b), 0) by unfold cmpS; rw [hbo]; rfl]
  clear ha hb hn hn2 hR hR2 hbo hab
  go_enter Tryd.func24, Tryd.ntmps24
  go_wp2_with (first | (go_at_call 29; (with_reducible refine hq.mono ?_); rintro e w1 ⟨rfl, rfl⟩) | (go_at_call 45; (with_reducible refine ho.mono ?_); rintro e w1 ⟨rfl, m, rfl⟩))
  go_ret2
  exact ⟨rfl, below_drewN hB m⟩
end
def Z32 (n : Nat) : Obj := .cells (ints .u32 (List.replicate n 0)).toArray 45
theorem made32 (n : Nat) : (Obj.cells (madeCells (Value.int .u32 0).cells n) 45) = Z32 n := by
  unfold Z32 madeCells
  congr 1
  apply Array.ext
  · simp
  · intro i h1 h2
    simp [Value.cells, Nat.mod_one]
theorem run_z32 (n : Nat) (hn : n ≤ 10000) (w : World) : (Instr.makeSlice 22 (.int .i64 (n : Int)) (.int .i64 (n : Int))).run Tryd.prog w = .ok (.slice (some ⟨w.heap.size, 0, none⟩) n n) (w.alloc (Z32 n)) := by
  obtain ⟨i0, hi0, hz0, hz1, hz2⟩ := info_parts infoU32
  have := run_make (P := Tryd.prog) w 22 45 i0 _ Tryd.underlying22 hi0 hz0 .i64 .i64 n n (by omega) (Int.le_refl _) (by rw [hz2]; omega) (by omega)
  rw [this, hz1, ← made32]
  simp
theorem ints_set (k : IntKind) (l : List Nat) (i : Nat) {z : Int} (h : 0 ≤ z) : (ints k l).toArray.setIfInBounds i (.int k z) = (ints k (l.set i z.toNat)).toArray := by
  apply Array.ext'
  rw [Array.toList_setIfInBounds]
  simp [ints, List.map_set, Int.toNat_of_nonneg h]
theorem getD_set {l : List Nat} {i j v : Nat} (h : i < l.length) : (l.set i v).getD j 0 = if i = j then v else l.getD j 0 := by
  rw [List.getD_eq_getElem?_getD, List.getElem?_set]
  by_cases e : i = j
  · rw [if_pos e, if_pos e, if_pos h]; rfl
  · rw [if_neg e, if_neg e, ← List.getD_eq_getElem?_getD]
theorem pre_set {B : Nat} {l : List Nat} {i v k : Nat} (h : k ≤ i) : pre B (l.set i v) k = pre B l k := by
  apply pre_eq
  intro j hj
  rw [List.getD_eq_getElem?_getD, List.getElem?_set, if_neg (by omega), ← List.getD_eq_getElem?_getD]
theorem pre_set_at {B : Nat} {l : List Nat} {i v : Nat} (h : i < l.length) : pre B (l.set i v) (i + 1) = pre B l i + B ^ i * v := by
  rw [pre_succ, pre_set (Nat.le_refl _), getD_set h, if_pos rfl]
theorem less_step {B V P Q k x y q d r : Nat} (he : x + B * r = d + y + q) (h : P + B ^ k * q = V + Q) : P + B ^ k * x + B ^ (k + 1) * r = V + B ^ k * d + (Q + B ^ k * y) := by
  have : B ^ k * x + B ^ (k + 1) * r = B ^ k * d + B ^ k * y + B ^ k * q := by
    rw [Nat.pow_succ, Nat.mul_assoc, ← Nat.mul_add, he, Nat.mul_add, Nat.mul_add]
  omega
set_option maxHeartbeats 4000000 in
theorem less_any (A A2 : Option Addr) (n n2 c c2 : Nat) (a b : List Nat) (hn : a.length = n) (hn2 : b.length = n2) (hm : n ≤ 9000) (hle : n2 ≤ n) (ha : ∀ x ∈ a, x < 4294967296) (hb : ∀ x ∈ b, x < 4294967296) (hba : val 4294967296 b ≤ val 4294967296 a) (w : World) (hR : Reads w w.heap.size 1 A n (ints .u32 a)) (hR2 : Reads w w.heap.size 1 A2 n2 (ints .u32 b)) (m : Nat) (hL : (dig 4294967296 (val 4294967296 a - val 4294967296 b)).length = m) :
    Calls Tryd.prog 46 #[.slice A n c, .slice A2 n2 c2] w fun en w' => ∃ Ao, en = .returned (.slice Ao m m) ∧ OwnR w' w.heap.size 45 Ao m (ints .u32 (dig 4294967296 (val 4294967296 a - val 4294967296 b))) ∧ Below w.heap.size w w' := by
  have pa := pre_all 4294967296 a n (by omega)
  have pb := pre_all 4294967296 b n (by omega)
  have hmk := run_z32 n (by omega)
  have hB0 := (Below.refl w.heap.size w).alloc (Nat.le_refl _) (Z32 n)
  have hk0 : Blk (w.alloc (Z32 n)) w.heap.size 45 (ints .u32 (List.replicate n 0)).toArray := Blk.new w 45 _
  obtain ⟨Z, hZ⟩ : ∃ Z, Z32 n = Z := ⟨_, rfl⟩
  rw [hZ] at hB0 hk0
  simp only [hZ] at hmk
  have hcb := fun (k : Nat) (h : k ≤ 100000) (w' : World) (hw : Below w.heap.size w w') => lim_at A2 n2 c2 w.heap.size k b hn2 (by omega) h w' (hR2.below hw)
  have gn := Lib.hid hn
  have gL := Lib.hid hL
  clear hn hL hZ hn2
  go_enter Tryd.func46, Tryd.ntmps46
  go_wp2
  go_loopw [6, 13] (fun cy i wr => ∃ (k q : Nat) (L : List Nat), k ≤ n ∧ i = .int .i64 (k : Int) ∧ cy = .int .u32 (q : Int) ∧ q ≤ 1 ∧ Hid (L.length = n) ∧ (∀ x ∈ L, x < 4294967296) ∧ Hid (pre 4294967296 a k + 4294967296 ^ k * q = pre 4294967296 L k + pre 4294967296 b k) ∧ Blk wr w.heap.size 45 (ints .u32 L).toArray ∧ Below w.heap.size w wr) (fun _ i _ => n - (intOf i).toNat)
  case atStart => exact ⟨0, 0, List.replicate n 0, Nat.zero_le _, rfl, rfl, by omega, Lib.hid (by simp), (fun x hx => by rw [(List.mem_replicate.1 hx).2]; omega), Lib.hid rfl, hk0, hB0⟩
  case round =>
    clear hmk hB0 hk0
    obtain ⟨k, q, L, hk, rfl, rfl, hq, hLl, hLb, hv, hK, hB⟩ := hrel
    have hz := hB.size
    by_cases hlt : k < n
    · obtain ⟨ad, rfl, hab, cA⟩ := at_ints gn.out hR hlt
      have SS : ∀ w', Below w.heap.size w w' → w'.cell? (ad.add k) = some (.int .u32 ((a.getD k 0 : Nat) : Int)) := fun w' h => (h.cell (p := ad.add k) (by rw [block_of_add]; exact hab)).trans cA
      have cb := hcb k (by omega)
      have xa := getD_lt (B := 4294967296) (by omega) ha k
      have xb := getD_lt (B := 4294967296) (by omega) hb k
      have va := pre_succ 4294967296 a k
      have vb := pre_succ 4294967296 b k
      have zc : wr.cell? ⟨w.heap.size, k, none⟩ = some (.int .u32 ((L.getD k 0 : Nat) : Int)) := by rw [hK.cell]; simp only [List.getElem?_toArray]; exact ints_at .u32 (by rw [hLl.out]; exact hlt)
      obtain ⟨u, hu⟩ : ∃ u, L.getD k 0 = u := ⟨_, rfl⟩
      rw [hu] at zc
      have zf := hK.frozen k
      have zl := hK.lt
      obtain ⟨x, hx⟩ : ∃ x, a.getD k 0 = x := ⟨_, rfl⟩
      obtain ⟨y, hy⟩ : ∃ y, b.getD k 0 = y := ⟨_, rfl⟩
      rw [hx] at va xa cA
      simp only [hx] at SS
      rw [hy] at vb xb
      simp only [hy] at cb
      obtain ⟨d, hd⟩ : ∃ d, (x + 4294967296 - y - q) % 4294967296 = d := ⟨_, rfl⟩
      obtain ⟨r, hr⟩ : ∃ r, (if x < y + q then 1 else 0 : Nat) = r := ⟨_, rfl⟩
      have hsub := fun w => sub32 x y q xa xb hq w
      simp only [hd, hr] at hsub
      have hr1 : r ≤ 1 := by rw [← hr]; split <;> omega
      have he : x + 4294967296 * r = d + y + q := by rw [← hr, ← hd]; split <;> omega
      have hdl : d < 4294967296 := by rw [← hd]; exact Nat.mod_lt _ (by omega)
      have hv' : Hid (pre 4294967296 a (k + 1) + 4294967296 ^ (k + 1) * r = pre 4294967296 (L.set k d) (k + 1) + pre 4294967296 b (k + 1)) := Lib.hid (by
        rw [va, vb, pre_set_at (by rw [hLl.out]; exact hlt)]
        exact less_step he hv.out)
      have hLb' : ∀ z ∈ L.set k d, z < 4294967296 := by
        intro z hz
        rcases List.mem_or_eq_of_mem_set hz with h | h
        · exact hLb z h
        · omega
      have hLl' : Hid ((L.set k d).length = n) := Lib.hid (by rw [List.length_set]; exact hLl.out)
      have hK' := hK.set_ k (.int .u32 (d : Int))
      rw [ints_set _ _ _ (by omega), Int.toNat_natCast] at hK'
      have hB' := (hB.setCell (p := ⟨w.heap.size, k, none⟩) (Nat.le_refl _) (.int .u32 (d : Int)))
      have hBd : Below w.heap.size w wr.drew := Below.drew hB
      have i1 : (0 : Int) ≤ k := by omega
      have i2 : (k : Int) < n := by omega
      clear hcb hx hy va vb hv hLl hLb hR hR2 pa pb hd hr he cA hu ha hb hK
      go_wp2_with fail
      go_region_held3 (fun w' => w'.cell? (ad.add k) = some (.int .u32 (x : Int))) (first | exact SS _ hBd | exact SS _ (Below.drew hB')) (first
        | (go_at_call 36; (with_reducible refine (cb _ hBd).mono ?_); rintro e w' ⟨rfl, rfl⟩)
        | (go_at_call 52; (with_reducible refine (hsub _).mono ?_); rintro e w' ⟨rfl, rfl⟩))
      go_wp2
      go_roundw
      case rel => exact ⟨k + 1, r, L.set k d, by omega, by go_num, rfl, hr1, hLl', hLb', hv', hK'.drew, hB'.drew⟩
      case measure => simp [intOf] <;> omega
    · obtain rfl : k = n := by omega
      have hv2 := hv.out
      have pL := pre_all 4294967296 L k (by rw [hLl.out]; exact Nat.le_refl _)
      rw [pa, pb, pL] at hv2
      have hVL := val_lt hLb
      rw [hLl.out] at hVL
      have q0 : q = 0 := by
        rcases Nat.eq_zero_or_pos q with h | h
        · exact h
        · have : q = 1 := by omega
          subst this
          omega
      subst q0
      have hv3 : val 4294967296 L = val 4294967296 a - val 4294967296 b := by omega
      obtain ⟨ht, hmk⟩ := dig_take (B := 4294967296) (by omega) hLb hv3 gL.out
      rw [hLl.out] at hmk
      have hO := (own_of_make hK (Nat.le_refl _))
      simp only [List.size_toArray, List.length_map, hLl.out] at hO
      have hcut := cut_any (some ⟨w.heap.size, 0, none⟩) k k wr.heap.size L hLl.out (by omega) (Nat.le_refl _) hLb wr hO.reads m (by rw [hv3]; exact gL.out)
      have hres := hO.cut hmk
      rw [← List.map_take, ht] at hres
      clear hcb hR hR2 hv hv2 hv3 hVL hLl hLb ha hb pa pb ht hO gn gL hba hK pL
      go_wp2_with (go_at_call 37; (with_reducible refine hcut.mono ?_); rintro e w' ⟨rfl, rfl⟩)
      go_ret
      exact ⟨_, rfl, hres, hB⟩
section
variable (A A2 : Option Addr) (n n2 c c2 : Nat) (a b : List Nat) (hn : a.length = n) (hn2 : b.length = n2) (ha : ∀ x ∈ a, x < 4294967296) (hb : ∀ x ∈ b, x < 4294967296) (w : World) (hR : Reads w w.heap.size 1 A n (ints .u32 a)) (hR2 : Reads w w.heap.size 1 A2 n2 (ints .u32 b))
include hn hn2 ha hb hR hR2 in
set_option maxHeartbeats 4000000 in
theorem sub_any :
    Calls Tryd.prog 23 #[.slice A n c, .slice A2 n2 c2] w (TOwn w (subS a b)) := by
  have hB := (Below.refl w.heap.size w).alloc (Nat.le_refl _) (.cells #[.slice A n c, .slice A2 n2 c2] 22)
  cases hbo : both a b
  · have hq := ask2 A A2 n n2 c c2 a b hn hn2 w hR hR2 8 (by rw [hbo]; rfl)
    rw [show subS a b = ([], 8) by unfold subS; rw [hbo]; rfl]
    clear ha hb hn hn2 hR hR2 hbo
    go_enter Tryd.func23, Tryd.ntmps23
    go_wp2_with (go_at_call 29; (with_reducible refine hq.mono ?_); rintro e w1 ⟨rfl, rfl⟩)
    go_ret2
    exact onil hB 8
  have hq := ask2 A A2 n n2 c c2 a b hn hn2 w hR hR2 0 (by rw [hbo]; rfl)
  have hab := hbo
  unfold both at hab
  simp only [Bool.and_eq_true] at hab
  have la := mayB_len hab.1
  have lb := mayB_len hab.2
  have ho := order_any A A2 n n2 c c2 w.heap.size w.heap.size a b hn hn2 (by omega) (by omega) ha hb (mayB_canon hab.1) (mayB_canon hab.2) _ (hR.alloc (Nat.le_refl _) (.cells #[.slice A n c, .slice A2 n2 c2] 22)) (hR2.alloc (Nat.le_refl _) (.cells #[.slice A n c, .slice A2 n2 c2] 22))
  by_cases hlt : val 4294967296 a < val 4294967296 b
  · rw [show cmpI (val 4294967296 a) (val 4294967296 b) = -1 by unfold cmpI; rw [if_pos hlt]] at ho
    rw [show subS a b = ([], 11) by unfold subS; rw [if_pos hbo, if_pos hlt]]
    clear ha hb hn hn2 hR hR2 hbo hab la lb hlt
    go_enter Tryd.func23, Tryd.ntmps23
    go_wp2_with (first | (go_at_call 29; (with_reducible refine hq.mono ?_); rintro e w1 ⟨rfl, rfl⟩) | (go_at_call 45; (with_reducible refine ho.mono ?_); rintro e w1 ⟨rfl, m, rfl⟩))
    go_ret2
    exact onil (below_drewN hB m) 11
  rw [show subS a b = (dig 4294967296 (val 4294967296 a - val 4294967296 b), 0) by unfold subS; rw [if_pos hbo, if_neg hlt]]
  obtain ⟨T, hT⟩ : ∃ T, cmpI (val 4294967296 a) (val 4294967296 b) = T := ⟨_, rfl⟩
  have hT0 : 0 ≤ T := by rw [← hT]; unfold cmpI; rw [if_neg hlt]; split <;> decide
  have t0 : decide (T < 0) = false := decide_eq_false (by omega)
  rw [hT] at ho
  obtain ⟨m, hm⟩ : ∃ m, (dig 4294967296 (val 4294967296 a - val 4294967296 b)).length = m := ⟨_, rfl⟩
  have hle : n2 ≤ n := by
    rcases Nat.lt_or_ge n n2 with h | h
    · exact absurd (canon_len_lt (B := 4294967296) (by omega) ha (mayB_canon hab.2) (by omega)) hlt
    · exact h
  have hl := fun w' (hw : Below w.heap.size w w') => less_any A A2 n n2 c c2 a b hn hn2 (by omega) hle ha hb (by omega) w' ((hR.below hw).more hw.size) ((hR2.below hw).more hw.size) m hm
  have gm := Lib.hid hm
  clear ha hb hn hn2 hR hR2 hbo hab la lb hlt hT hle hm
  go_enter Tryd.func23, Tryd.ntmps23
  go_wp2_with (first | (go_at_call 29; (with_reducible refine hq.mono ?_); rintro e w1 ⟨rfl, rfl⟩) | (go_at_call 45; (with_reducible refine ho.mono ?_); rintro e w1 ⟨rfl, q, rfl⟩) | (go_at_call 46; (with_reducible refine (hl _ (below_drewN hB q)).mono ?_); rintro e w1 ⟨Ao, rfl, hO, hb2⟩))
  go_ret2
  have hz := (below_drewN hB q).size
  exact ⟨Ao, m, by simp only [gm.out]; rfl, by simp only [gm.out]; exact Nat.le_refl _, by simp only [gm.out]; exact hO.base_le hz, (below_drewN hB q).trans (hb2.mono hz)⟩
end
set_option maxHeartbeats 4000000 in
theorem of_any (x : Nat) (hx : x < 18446744073709551616) (m : Nat) (hL : (dig 4294967296 x).length = m) (w : World) :
    Calls Tryd.prog 26 #[.int .u64 (x : Int)] w fun en w' => ∃ Ao, en = .returned (.slice Ao m m) ∧ OwnR w' w.heap.size 45 Ao m (ints .u32 (dig 4294967296 x)) ∧ Below w.heap.size w w' := by
  have hB := (Below.refl w.heap.size w).alloc (Nat.le_refl _) (.cells #[.int .u32 ((x : Int) % 4294967296), .int .u32 ((x : Int) / 4294967296)] 45)
  have hK := Blk.new w 45 #[.int .u32 ((x : Int) % 4294967296), .int .u32 ((x : Int) / 4294967296)]
  have hcs : #[.int .u32 ((x : Int) % 4294967296), .int .u32 ((x : Int) / 4294967296)] = (ints .u32 [x % 4294967296, x / 4294967296]).toArray := by simp
  have hl : ∀ z ∈ [x % 4294967296, x / 4294967296], z < 4294967296 := by
    intro z hz
    simp at hz
    rcases hz with rfl | rfl <;> omega
  have hv : val 4294967296 [x % 4294967296, x / 4294967296] = x := by rw [val_cons, val_cons, val_nil]; omega
  have hO := own_of_make (w := w.alloc (.cells #[.int .u32 ((x : Int) % 4294967296), .int .u32 ((x : Int) / 4294967296)] 45)) (by rw [hcs] at hK ⊢; exact hK) (Nat.le_refl w.heap.size)
  simp only [List.size_toArray, List.length_map] at hO
  obtain ⟨ht, hm2⟩ := dig_take (B := 4294967296) (by omega) hl hv hL
  have hc := cut_any (some ⟨w.heap.size, 0, none⟩) 2 2 _ [x % 4294967296, x / 4294967296] rfl (by omega) (by omega) hl _ hO.reads m (by rw [hv]; exact hL)
  have hres := hO.cut hm2
  rw [← List.map_take, ht] at hres
  clear hK hcs hl hv hO ht hm2 hL
  go_enter Tryd.func26, Tryd.ntmps26
  go_wp2_with (go_at_call 37; (with_reducible refine hc.mono ?_); rintro e w1 ⟨rfl, rfl⟩)
  go_ret
  exact ⟨_, rfl, hres, hB⟩
end Go.Proofs.YtaklmkjldmbleaaDoor
