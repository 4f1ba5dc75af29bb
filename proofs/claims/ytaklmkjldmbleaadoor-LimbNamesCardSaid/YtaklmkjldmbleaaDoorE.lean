/- Limb: the program's quotients. -/
import Derived.Test.YtaklmkjldmbleaaDoorD
import Derived.Test.YtaklmkjldmbleaaDoorY
import Derived.WalkSpells
import Derived.RegionTactic
import Derived.BigRegion
namespace Go.Proofs.YtaklmkjldmbleaaDoor
open Go.ChangeShapes Go.WideShapes Go.ChangeAt Go.RowKit
set_option linter.unusedSimpArgs false
set_option linter.unusedVariables false
/-- Rows that lie apart. -/
def Apart (A : Option Addr) (n : Nat) (A' : Option Addr) (n' : Nat) : Prop := ∀ ad ad', A = some ad → 0 < n → A' = some ad' → 0 < n' → ad.block ≠ ad'.block
theorem OwnR.apart {w : World} {base n : Nat} {e : TypeId} {A : Option Addr} {xs : List Value} (h : OwnR w base e A n xs) {p : Addr} (hp : ∀ ad, A = some ad → 0 < n → ad.block ≠ p.block) (u : Value) : OwnR (w.setCell p u) base e A n xs :=
  ⟨h.1, fun h0 => by obtain ⟨g, cur, hA, hg, hh, ht⟩ := h.2 h0; exact ⟨g, cur, hA, hg, hh.far (hp _ hA h0) u, ht⟩⟩
def Spoilt3 (w : World) (base n : Nat) (A : Option Addr) (w' : World) : Prop :=
  Below base w w' ∧ ∀ base' A' n' xs', Apart A' n' A n → OwnR w base' 45 A' n' xs' → OwnR w' base' 45 A' n' xs'
set_option maxHeartbeats 4000000 in
theorem spoil3 (A : Option Addr) (n c base : Nat) (xs : List Nat) (hm : n ≤ 100000) (w : World) (hO : OwnR w base 45 A n (ints .u32 xs)) :
    Calls Tryd.prog 18 #[.slice A n c] w fun en w' => en = .returned (.tuple #[]) ∧ Spoilt3 w base n A w' := by
  go_enter Tryd.func18, Tryd.ntmps18
  go_wp2
  go_loopw [2] (fun i wr => ∃ (k : Nat) (L : List Nat), k ≤ n ∧ i = .int .i64 (k : Int) ∧ OwnR wr base 45 A n (ints .u32 L) ∧ Spoilt3 w base n A wr) (fun i _ => n - (intOf i).toNat)
  case atStart => exact ⟨0, xs, Nat.zero_le _, rfl, hO, Below.refl _ _, fun _ _ _ _ _ h => h⟩
  case round =>
    clear hO
    obtain ⟨k, L, hk, rfl, hO, hB⟩ := hrel
    by_cases hlt : k < n
    · obtain ⟨g, rfl, hb, hl, hc, hf, hs⟩ := hO.at_ hlt
      have hLl : L.length = n := by have := hO.1; simpa using this
      rw [ints_at .u32 (by omega)] at hc
      have hs7 := hs (.int .u32 7)
      rw [show (ints .u32 L).set k (.int .u32 7) = ints .u32 (L.set k 7) by simp [ints, List.map_set]] at hs7
      have hB7 : Spoilt3 w base n (some ⟨g, 0, none⟩) (wr.setCell ⟨g, k, none⟩ (.int .u32 7)) := ⟨hB.1.setCell (p := ⟨g, k, none⟩) hb (.int .u32 7), fun base' A' n' xs' h1 h2 => (hB.2 base' A' n' xs' h1 h2).apart (p := ⟨g, k, none⟩) (fun ad e h0 => h1 ad ⟨g, 0, none⟩ e h0 rfl (by omega)) _⟩
      have i1 : (0 : Int) ≤ k := by omega
      have i2 : (k : Int) < n := by omega
      obtain ⟨u, hu⟩ : ∃ u, L.getD k 0 = u := ⟨_, rfl⟩
      rw [hu] at hc
      clear hO hs hu hLl hB
      go_wp2
      go_roundw
      case rel => exact ⟨k + 1, L.set k 7, by omega, by go_num, hs7, hB7⟩
      case measure => simp [intOf] <;> omega
    · obtain rfl : k = n := by omega
      clear hO
      go_wp2
      go_end0
      exact ⟨rfl, hB⟩
def ClPost (w : World) (n : Nat) (a : List Nat) (en : Ending) (w' : World) : Prop := ∃ Ao co, en = .returned (.slice Ao n co) ∧ n ≤ co ∧ OwnR w' w.heap.size 45 Ao n (ints .u32 a) ∧ Below w.heap.size w w'
theorem clone_any (A : Option Addr) (n c : Nat) (a : List Nat) (hn : a.length = n) (hm : n ≤ 1000) (w : World) (hR : Reads w w.heap.size 1 A n (ints .u32 a)) :
    Calls Tryd.prog 47 #[.slice A n c] w (ClPost w n a) := by
  rcases A with _ | ad
  · have h0 : n = 0 := by
      rcases Nat.eq_zero_or_pos n with h | h
      · exact h
      · obtain ⟨ad, h1, _⟩ := hR.2 h
        cases h1
    subst h0
    have ha : a = [] := List.eq_nil_of_length_eq_zero hn
    subst ha
    refine (sh_slices_Clone_nil 0 c w).mono ?_
    rintro en w' ⟨rfl, rfl⟩
    exact ⟨none, 0, rfl, Nat.le_refl _, OwnR.none_, Below.refl _ _⟩
  · obtain ⟨i0, hi0, hz0, hz1, hz2⟩ := info_parts infoU32
    clear hn
    have q22 : ∀ (w : World), (binOp .eql 22 (.slice (some ad) n c) (.slice none 0 0)).run Tryd.prog w = .ok (.bool false) w := fun w => Lib.run_eql_slice_nil w _ _ (some ad) n c 0 0 Tryd.underlying22
    go_enter Tryd.func47, Tryd.ntmps47
    go_wp2_with (at_builtin; refine wpList_append_any _ rfl (.tmp 5) (.tmp 6) 22 rfl w.heap.size 45 i0 _ 1 4 Tryd.underlying22 hi0 hz0 hz1 hz2 rfl (by omega) (.slice (some ⟨w.heap.size, 0, none⟩) 0 0) 0 [] rfl (owns_new w w.heap.size (Nat.le_refl _) [] 45 0 rfl (Nat.zero_le _)) w.heap.size (some ad) n c (ints .u32 a) rfl (hR.alloc (Nat.le_refl _) _) (ints_one _ _) (by unfold maxLen; omega) (by omega) (by rw [World.size_alloc]; omega) ?_; intro v4 w4 ho4 hg4 _; rw [Nat.zero_add, List.nil_append] at ho4; obtain ⟨Ao, co, rfl, hco, ro⟩ := own_slice ho4)
    go_ret
    refine ⟨Ao, co, rfl, hco, OwnR.of_row ho4, Below.grown ((Below.refl w.heap.size w).alloc (Nat.le_refl _) _) hg4 (by rw [World.size_alloc]; omega) ?_⟩
    intro q hq
    simp [Value.ownBlock] at hq
    omega
def DOwn (w : World) (R : List Nat × List Nat × Int) (en : Ending) (w' : World) : Prop :=
  ∃ A c A2 c2, en = .returned (.tuple #[.slice A R.1.length c, .slice A2 R.2.1.length c2, .int .i64 R.2.2]) ∧ OwnR w' w.heap.size 45 A R.1.length (ints .u32 R.1) ∧ OwnR w' w.heap.size 45 A2 R.2.1.length (ints .u32 R.2.1) ∧ Apart A2 R.2.1.length A R.1.length ∧ Below w.heap.size w w'
theorem donil {w w' : World} (hb : Below w.heap.size w w') (e : Int) : DOwn w ([], [], e) (.returned (.tuple #[.slice none 0 0, .slice none 0 0, .int .i64 e])) w' := ⟨none, 0, none, 0, rfl, OwnR.none_, OwnR.none_, fun _ _ _ h => absurd h (by simp), hb⟩
def Cut6 (W1 : World) (b0 n : Nat) (a : List Nat) (s4 s5 : Value) (wx : World) : Prop := ∃ g Ao co, s4 = .slice (some ⟨g, 0, none⟩) n n ∧ s5 = .slice Ao n co ∧ n ≤ co ∧ b0 ≤ g ∧ Blk wx g 45 (ints .u32 (List.replicate n 0)).toArray ∧ OwnR wx b0 45 Ao n (ints .u32 a) ∧ (∀ ad, Ao = some ad → 0 < n → ad.block ≠ g) ∧ Below b0 W1 wx
/-- All bits below j are 0. -/
def LowZ (q : List Nat) (j : Nat) : Prop := (∀ i, i < j / 32 → q.getD i 0 = 0) ∧ q.getD (j / 32) 0 % 2 ^ (j % 32) = 0
theorem lowz_step {q : List Nat} {k : Nat} (h : LowZ q (k + 1)) : (∀ i, i < k / 32 → q.getD i 0 = 0) ∧ q.getD (k / 32) 0 % 2 ^ (k % 32 + 1) = 0 ∧ LowZ q k := by
  have h0 : ∀ i, i < k / 32 → q.getD i 0 = 0 := fun i hi => h.1 i (by omega)
  have h1 : q.getD (k / 32) 0 % 2 ^ (k % 32 + 1) = 0 := by
    rcases (show (k + 1) / 32 = k / 32 ∧ (k + 1) % 32 = k % 32 + 1 ∨ k / 32 < (k + 1) / 32 by omega) with ⟨a, b⟩ | a
    · have := h.2
      rw [a, b] at this
      exact this
    · rw [h.1 _ a, Nat.zero_mod]
  refine ⟨h0, h1, h0, ?_⟩
  have hd : 2 ^ (k % 32) ∣ 2 ^ (k % 32 + 1) := ⟨2, by rw [Nat.pow_succ]⟩
  exact Nat.mod_eq_zero_of_dvd (Nat.dvd_trans hd (Nat.dvd_of_mod_eq_zero h1))
theorem bit_or {x r : Nat} (h : x % 2 ^ (r + 1) = 0) : x ||| 2 ^ r = x + 2 ^ r := by
  obtain ⟨y, rfl⟩ := Nat.dvd_of_mod_eq_zero h
  exact (Nat.two_pow_add_eq_or_of_lt (Nat.pow_lt_pow_right (by omega) (by omega)) y).symm
theorem div_start {va vb la lb : Nat} (h1 : va < 2 ^ la) (h2 : 2 ^ (lb - 1) ≤ vb) (hlb : 0 < lb) : va < vb * 2 ^ (la + 1 - lb) := by
  refine Nat.lt_of_lt_of_le h1 ?_
  refine Nat.le_trans ?_ (Nat.mul_le_mul_right _ h2)
  rw [← Nat.pow_add]
  exact Nat.pow_le_pow_right (by omega) (by omega)
theorem cutA {W1 w2 : World} {Z : Obj} {n co : Nat} {a : List Nat} {Ao : Option Addr} (hK : Blk (W1.alloc Z) W1.heap.size 45 (ints .u32 (List.replicate n 0)).toArray) (hco : n ≤ co) (hO : OwnR w2 (W1.alloc Z).drew.heap.size 45 Ao n (ints .u32 a)) (hb : Below (W1.alloc Z).drew.heap.size (W1.alloc Z).drew w2) :
    Cut6 W1 W1.heap.size n a (.slice (some ⟨W1.heap.size, 0, none⟩) n n) (.slice Ao n co) w2 := by
  have hz : (W1.alloc Z).drew.heap.size = W1.heap.size + 1 := World.size_alloc _ _
  refine ⟨_, Ao, co, rfl, rfl, hco, Nat.le_refl _, hK.drew.below hb hK.lt, hO.base_le (by omega), ?_, ?_⟩
  · intro ad e h0
    obtain ⟨g, _, hA, hg, _⟩ := hO.2 h0
    rw [e] at hA
    injection hA with hA
    rw [hA]
    show g ≠ _
    omega
  · exact (Below.drew ((Below.refl _ W1).alloc (Nat.le_refl _) Z)).trans (hb.mono (by omega))
theorem cutB {W1 w2 : World} {Z : Obj} {n co : Nat} {a : List Nat} {Ao : Option Addr} (hK : Blk (w2.alloc Z) w2.heap.size 45 (ints .u32 (List.replicate n 0)).toArray) (hco : n ≤ co) (hO : OwnR w2 W1.drew.heap.size 45 Ao n (ints .u32 a)) (hb : Below W1.drew.heap.size W1.drew w2) :
    Cut6 W1 W1.heap.size n a (.slice (some ⟨w2.heap.size, 0, none⟩) n n) (.slice Ao n co) (w2.alloc Z) := by
  have hz : W1.heap.size ≤ w2.heap.size := hb.size
  refine ⟨_, Ao, co, rfl, rfl, hco, hz, hK, (hO.below ((Below.refl _ w2).alloc (Nat.le_refl _) Z)).base_le (Nat.le_refl _), ?_, ?_⟩
  · intro ad e h0
    obtain ⟨g, _, hA, _, hh, _⟩ := hO.2 h0
    rw [e] at hA
    injection hA with hA
    rw [hA]
    have := hh.lt
    show g ≠ _
    omega
  · exact ((Below.drew (Below.refl _ W1)).trans hb).alloc hz Z
set_option maxRecDepth 100000 in
set_option maxHeartbeats 8000000 in
theorem div_any (A A2 : Option Addr) (n n2 c c2 : Nat) (a b : List Nat) (hn : a.length = n) (hn2 : b.length = n2) (ha : ∀ x ∈ a, x < 4294967296) (hb : ∀ x ∈ b, x < 4294967296) (w : World) (hR : Reads w w.heap.size 1 A n (ints .u32 a)) (hR2 : Reads w w.heap.size 1 A2 n2 (ints .u32 b)) :
    Calls Tryd.prog 25 #[.slice A n c, .slice A2 n2 c2] w (DOwn w (divS a b)) := by
  have hB := (Below.refl w.heap.size w).alloc (Nat.le_refl _) (.cells #[.slice A n c, .slice A2 n2 c2] 22)
  cases hbo : both a b
  · have hq := ask2 A A2 n n2 c c2 a b hn hn2 w hR hR2 8 (by rw [hbo]; rfl)
    rw [show divS a b = ([], [], 8) by unfold divS; rw [hbo]; rfl]
    clear ha hb hn hn2 hR hR2 hbo
    go_enter Tryd.func25, Tryd.ntmps25
    go_wp2
    go_step3
    go_wp2_with (go_at_call 29; (with_reducible refine hq.mono ?_); rintro e w1 ⟨rfl, rfl⟩)
    try rw [Exit.noGoto_ret]
    go_ret3
    exact donil hB 8
  have hq := ask2 A A2 n n2 c c2 a b hn hn2 w hR hR2 0 (by rw [hbo]; rfl)
  by_cases hz0 : n2 = 0
  · rw [show divS a b = ([], [], 2) by unfold divS; rw [if_pos hbo, if_pos (by omega)]]
    have t1 : ((n2 : Int) == 0) = true := by (simp <;> omega)
    have t2 : (n2 == 0) = true := by simpa using hz0
    clear ha hb hn hn2 hR hR2 hbo hz0
    go_enter Tryd.func25, Tryd.ntmps25
    go_wp2
    go_step3
    go_wp2_with (go_at_call 29; (with_reducible refine hq.mono ?_); rintro e w1 ⟨rfl, rfl⟩)
    try rw [Exit.noGoto_ret]
    go_ret3
    exact donil hB 2
  have t1 : ((n2 : Int) == 0) = false := by (simp <;> omega)
  have t2 : (n2 == 0) = false := by simpa using hz0
  rw [show divS a b = (dig 4294967296 (val 4294967296 a / val 4294967296 b), dig 4294967296 (val 4294967296 a % val 4294967296 b), 0) by unfold divS; rw [if_pos hbo, if_neg (by omega)]]
  have hab := hbo
  unfold both at hab
  simp only [Bool.and_eq_true] at hab
  have la := mayB_len hab.1
  have lb := mayB_len hab.2
  have ca := mayB_canon hab.1
  have cb := mayB_canon hab.2
  have n40 : n ≤ 40 := by omega
  have m40 : n2 ≤ 40 := by omega
  obtain ⟨W1, hW1⟩ : ∃ W, W = w.alloc (.cells #[.slice A n c, .slice A2 n2 c2] 22) := ⟨_, rfl⟩
  rw [← hW1] at hB hq
  have hRa := (hR.below hB).more hB.size
  have hRb := (hR2.below hB).more hB.size
  have hmk := run_z32 n (by omega)
  have hK1 := fun W => Blk.new W 45 (ints .u32 (List.replicate n 0)).toArray
  obtain ⟨Z, hZ⟩ : ∃ Z, Z32 n = Z := ⟨_, rfl⟩
  have hZc : Obj.cells (ints .u32 (List.replicate n 0)).toArray 45 = Z := hZ
  simp only [hZc] at hK1
  simp only [hZ] at hmk
  have hcl := fun w' (h : Below W1.heap.size W1 w') => clone_any A n c a hn (by omega) w' ((hRa.below h).more h.size)
  have hD1 : Below W1.heap.size W1 W1.drew := Below.drew (Below.refl _ _)
  have hD2 : Below W1.heap.size W1 (W1.alloc Z).drew := Below.drew ((Below.refl _ W1).alloc (Nat.le_refl _) Z)
  have gn := Lib.hid hn
  have gn2 := Lib.hid hn2
  clear hn hn2 hbo hab la lb hZ hZc hR hR2 hz0
  go_enter Tryd.func25, Tryd.ntmps25
  go_wp2
  go_step3
  go_wp2_with fail
  rw [← hW1]
  have gW := Lib.hid hW1
  clear hW1
  refine hq.mono ?_
  rintro e w1 ⟨rfl, rfl⟩
  clear hq
  go_upto_region 6 with fail
  go_cut [4, 5] (fun s4 s5 wx => Cut6 W1 W1.heap.size n a s4 s5 wx)
  case first =>
    go_region_held3 (fun w' => True) (trivial) (first | (go_at_call 47; (with_reducible refine (hcl _ (by first | with_reducible exact hD1 | with_reducible exact hD2)).mono ?_); rintro en w2 ⟨Ao, co, rfl, hco, hO, hb2⟩))
    all_goals go_wp2_with fail
    all_goals go_meet
    · exact cutA (hK1 W1) hco hO hb2
    · exact cutB (hK1 w2) hco hO hb2
  case rest =>
    obtain ⟨g, Ao, co, rfl, rfl, hco, hg, hK, hO, hne, hBc⟩ := hcut
    obtain ⟨va, hva⟩ : ∃ v, val 4294967296 a = v := ⟨_, rfl⟩
    obtain ⟨vb, hvb⟩ : ∃ v, val 4294967296 b = v := ⟨_, rfl⟩
    have hvb0 : 0 < vb := by
      rw [← hvb]
      refine canon_val_pos (by omega) cb ?_
      rw [gn2.out]
      rcases Nat.eq_zero_or_pos n2 with h | h
      · rw [h] at t2; simp at t2
      · exact h
    have hae : a = dig 4294967296 va := by rw [← hva]; exact canon_eq (by omega) ha ca
    obtain ⟨la, hla⟩ : ∃ l, bl va = l := ⟨_, rfl⟩
    obtain ⟨lb, hlb⟩ : ∃ l, bl vb = l := ⟨_, rfl⟩
    have hla2 : la ≤ 32 * n := by rw [← hla, ← hva]; exact dig2_len (by rw [gn.out]; exact Nat.le_refl _) ha
    have hlb2 : lb ≤ 32 * n2 := by rw [← hlb, ← hvb]; exact dig2_len (by rw [gn2.out]; exact Nat.le_refl _) hb
    have hlb0 : 0 < lb := by
      rw [← hlb]
      rcases Nat.eq_zero_or_pos (bl vb) with h | h
      · have := bl_lt vb; rw [h] at this; omega
      · exact h
    have hst := div_start (va := va) (vb := vb) (la := la) (lb := lb) (by rw [← hla]; exact bl_lt va) (by rw [← hlb]; exact bl_ge hvb0) hlb0
    have hL1 := length_any A n c W1.heap.size a gn.out (by omega) ha ca wc (hRa.below hBc)
    have hL2 := length_any A2 n2 c2 W1.heap.size b gn2.out (by omega) hb cb wc (hRb.below hBc)
    rw [hva, hla] at hL1
    rw [hvb, hlb] at hL2
    have hleft := fun (k : Nat) (hk : k ≤ 10000) (w' : World) (hw : Below W1.heap.size W1 w') => left_any A2 n2 c2 k b gn2.out (by omega) hk hb _ rfl w' ((hRb.below hw).more hw.size)
    rw [hvb] at hleft
    have gva := Lib.hid hva
    have gvb := Lib.hid hvb
    have glb : vb < 2 ^ lb := by rw [← hlb]; exact bl_lt vb
    have glb' := Lib.hid glb
    clear glb
    have hna : (dig 4294967296 va).length = n := by rw [← hae]; exact gn.out
    have hO' : OwnR wc W1.heap.size 45 Ao n (ints .u32 (dig 4294967296 va)) := by rw [← hae]; exact hO
    have gleft := Lib.hid hleft
    have gna := Lib.hid hna
    clear hae hla hlb hva hvb hRa hRb ha hb ca cb hcl hD1 hD2 hK1 hmk hO hleft hna
    go_wp2_with fail
    go_step3
    go_wp2_with (first | (go_at_call 40; (with_reducible refine hL1.mono ?_); rintro e w1 ⟨rfl, rfl⟩) | (go_at_call 40; (with_reducible refine hL2.mono ?_); rintro e w1 ⟨rfl, rfl⟩))
    go_loopw [5, 8] (fun r t wr => ∃ (j : Nat) (z : Int) (R m : Nat) (Ar : Option Addr) (cr : Nat) (q : List Nat), t = .int .i64 z ∧ (0 < j → z = (j : Int) - 1) ∧ (j = 0 → z < 0) ∧ j ≤ 32 * n ∧ -2000 ≤ z ∧ z ≤ 2000 ∧ r = .slice Ar m cr ∧ m ≤ cr ∧ m ≤ 40 ∧ Hid ((dig 4294967296 R).length = m) ∧ Hid (R < vb * 2 ^ j) ∧ Hid (q.length = n) ∧ Hid (∀ x ∈ q, x < 4294967296) ∧ Hid (LowZ q j) ∧ Hid (va = val 4294967296 q * vb + R) ∧ OwnR wr W1.heap.size 45 Ar m (ints .u32 (dig 4294967296 R)) ∧ Hid (∀ ad, Ar = some ad → 0 < m → ad.block ≠ g) ∧ Blk wr g 45 (ints .u32 q).toArray ∧ Below W1.heap.size W1 wr) (fun _ t _ => (intOf t + 1).toNat)
    case atStart => exact ⟨la + 1 - lb, (la : Int) - lb, va, n, Ao, co, List.replicate n 0, rfl, by omega, by omega, by omega, by omega, by omega, rfl, hco, n40, gna, Lib.hid hst, Lib.hid (by simp), Lib.hid (fun x hx => by rw [(List.mem_replicate.1 hx).2]; omega), Lib.hid ⟨fun i _ => by rw [List.getD_eq_getElem?_getD, List.getElem?_replicate]; split <;> rfl, by rw [List.getD_eq_getElem?_getD, List.getElem?_replicate]; split <;> simp⟩, Lib.hid (by rw [val_zero (l := List.replicate n 0) (fun x hx => (List.mem_replicate.1 hx).2)]; omega), hO', Lib.hid hne, hK, hBc⟩
    case round =>
      clear hO' hK hBc hst
      obtain ⟨j, z, R, m, Ar, cr, q, rfl, hz1, hz2, hj, hzl, hzh, rfl, hcr, hm40, hmR, hRv, hql, hqb, hqz, hv, hO, hne, hK, hBr⟩ := hrel
      rcases Nat.eq_zero_or_pos j with rfl | hp
      · have hz := hz2 rfl
        have t3 : decide (0 ≤ z) = false := decide_eq_false (by omega)
        have hv2 := hv.out
        have hRv2 := hRv.out
        rw [Nat.pow_zero, Nat.mul_one] at hRv2
        have e1 : val 4294967296 q = va / vb := by rw [hv2, Nat.mul_comm, Nat.mul_add_div hvb0, Nat.div_eq_of_lt hRv2, Nat.add_zero]
        have e2 : R = va % vb := by rw [hv2, Nat.mul_comm, Nat.mul_add_mod, Nat.mod_eq_of_lt hRv2]
        have hQ := own_of_make hK (Nat.le_refl g)
        simp only [List.size_toArray, List.length_map, hql.out] at hQ
        obtain ⟨m1, hm1⟩ : ∃ m, (dig 4294967296 (va / vb)).length = m := ⟨_, rfl⟩
        obtain ⟨ht, hm1n⟩ := dig_take (B := 4294967296) (by omega) hqb.out e1 hm1
        rw [hql.out] at hm1n
        have hc1 := cut_any (some ⟨g, 0, none⟩) n n wr.heap.size q hql.out (by omega) (Nat.le_refl _) hqb.out wr hQ.reads m1 (by rw [e1]; exact hm1)
        have hQ2 := hQ.cut hm1n
        rw [← List.map_take, ht] at hQ2
        have hc2 := cut_any Ar m cr wr.heap.size (dig 4294967296 R) hmR.out (by omega) hcr (dig_lt (by omega) R) wr hO.reads m (by rw [val_dig (by omega)]; exact hmR.out)
        rw [e2] at hO hmR
        have gm1 := Lib.hid hm1
        clear hv hv2 hRv hRv2 e1 e2 hQ ht hql hqb hqz hm1 hK gleft gna hL1 hL2 hz1 hz2 hm1n
        go_wp2_with (first | (go_at_call 37; (with_reducible refine hc1.mono ?_); rintro e w1 ⟨rfl, rfl⟩) | (go_at_call 37; (with_reducible refine hc2.mono ?_); rintro e w1 ⟨rfl, rfl⟩))
        try rw [Exit.noGoto_ret]
        go_ret3
        have hzz := hB.size
        rw [gva.out, gvb.out]
        refine ⟨some ⟨g, 0, none⟩, m1, Ar, m, ?_, ?_, ?_, ?_, hB.trans (hBr.mono hzz)⟩
        · simp only [gm1.out, hmR.out]; rfl
        · simp only [gm1.out]; exact hQ2.base_le (by omega)
        · simp only [hmR.out]; exact hO.base_le hzz
        · simp only [gm1.out, hmR.out]
          intro ad ad' ea h0 ea' _
          injection ea' with ea'
          rw [← ea']
          exact hne.out ad ea h0
      · obtain ⟨k, rfl⟩ : ∃ k, j = k + 1 := ⟨j - 1, by omega⟩
        obtain rfl : z = (k : Int) := by have := hz1 hp; omega
        have t3 : decide (0 ≤ (k : Int)) = true := decide_eq_true (by omega)
        have hlf := gleft.out k (by omega) wr hBr
        obtain ⟨mx, hmx⟩ : ∃ m, (dig 4294967296 (vb * 2 ^ k)).length = m := ⟨_, rfl⟩
        rw [hmx] at hlf
        have gmx := Lib.hid hmx
        obtain ⟨X, hX⟩ : ∃ X, vb * 2 ^ k = X := ⟨_, rfl⟩
        rw [hX] at hlf hmx gmx
        have hRX : R < 2 * X := by have := hRv.out; rw [Nat.pow_succ, ← Nat.mul_assoc, hX] at this; omega
        have hvX : vb * 2 ^ k = X := hX
        have gvX := Lib.hid hvX
        have hX0 : 0 < X := by rw [← hX]; exact Nat.mul_pos hvb0 (Nat.pow_pos (by omega))
        have gRX := Lib.hid hRX
        have hxl : mx ≤ 400 := by
          obtain ⟨E, hE⟩ : ∃ E, E = 80 := ⟨_, rfl⟩
          refine Nat.le_trans (m := E) ?_ (by omega)
          rw [← hmx]
          refine dig_len_le (by omega) ?_
          rw [pow32, ← hX]
          refine Nat.lt_of_lt_of_le ((Nat.mul_lt_mul_right (Nat.pow_pos (by omega))).2 glb'.out) ?_
          rw [← Nat.pow_add]
          exact Nat.pow_le_pow_right (by omega) (by omega)
        clear hmx hX hRX hvX hL1 hL2 hz1 hz2 hRv
        go_wp2_with fail
        refine hlf.mono ?_
        rintro en w1 ⟨Ax, rfl, hOx, hb1⟩
        have hO1 := hO.below hb1
        have hK1 := hK.below hb1 hK.lt
        have hB1 := hBr.trans (hb1.mono hBr.size)
        have ho := order_any Ar Ax m mx cr mx w1.heap.size w1.heap.size (dig 4294967296 R) (dig 4294967296 X) hmR.out gmx.out (by omega) (by omega) (dig_lt (by omega) R) (dig_lt (by omega) X) (dig_canon (by omega) R) (dig_canon (by omega) X) w1 hO1.reads hOx.reads
        rw [val_dig (by omega), val_dig (by omega)] at ho
        obtain ⟨T, hT⟩ : ∃ T, cmpI R X = T := ⟨_, rfl⟩
        rw [hT] at ho
        clear hlf hb1 hO hK hBr
        go_wp2_with fail
        by_cases hlt : R < X
        · obtain rfl : T = -1 := by rw [← hT]; unfold cmpI; rw [if_pos hlt]
          have gv := Lib.hid hlt
          have hRv' : Hid (R < vb * 2 ^ k) := Lib.hid (by rw [gvX.out]; exact hlt)
          have hqz' : Hid (LowZ q k) := Lib.hid (lowz_step hqz.out).2.2
          clear hT hlt hOx hqz gRX
          refine ho.mono ?_
          rintro en w2 ⟨rfl, qd, hqd⟩
          have hb2 : Below w1.heap.size w1 w2 := by rw [hqd]; exact below_drewN (Below.refl _ _) qd
          have hO2 := hO1.below hb2
          have hK2 := hK1.below hb2 hK1.lt
          have hB2 := hB1.trans (hb2.mono hB1.size)
          clear hqd hb2 hO1 hK1 hB1 ho
          go_wp2
          go_roundw
          case rel => exact ⟨k, (k : Int) - 1, R, m, Ar, cr, q, by first | rfl | go_num, fun _ => rfl, fun h => by omega, by omega, by omega, by omega, rfl, hcr, hm40, hmR, hRv', hql, hqb, hqz', hv, hO2, hne, hK2, hB2⟩
          case measure => simp [intOf] <;> omega
        · have hT0 : 0 ≤ T := by rw [← hT]; unfold cmpI; rw [if_neg hlt]; split <;> decide
          have t4 : decide (T < 0) = false := decide_eq_false (by omega)
          obtain ⟨m3, hm3⟩ : ∃ m, (dig 4294967296 (R - X)).length = m := ⟨_, rfl⟩
          have hmxm : mx ≤ m := by
            rw [← gmx.out]
            refine dig_len_le (by omega) ?_
            have h1 := val_lt (dig_lt (B := 4294967296) (by omega) R)
            rw [val_dig (by omega), hmR.out] at h1
            omega
          have hm3m : m3 ≤ m := by
            rw [← hm3]
            refine dig_len_le (by omega) ?_
            have h1 := val_lt (dig_lt (B := 4294967296) (by omega) R)
            rw [val_dig (by omega), hmR.out] at h1
            omega
          have hle := fun w' (h : Below w1.heap.size w1 w') => less_any Ar Ax m mx cr mx (dig 4294967296 R) (dig 4294967296 X) hmR.out gmx.out (by omega) hmxm (dig_lt (by omega) R) (dig_lt (by omega) X) (by rw [val_dig (by omega), val_dig (by omega)]; omega) w' (((hO1.below h).reads)) (((hOx.below h).reads)) m3 (by rw [val_dig (by omega), val_dig (by omega)]; exact hm3)
          simp only [val_dig (B := 4294967296) (by omega : 2 ≤ 4294967296)] at hle
          obtain ⟨hq0, hq1, hq2⟩ := lowz_step hqz.out
          obtain ⟨d, hd⟩ : ∃ d, k / 32 = d := ⟨_, rfl⟩
          obtain ⟨r, hr⟩ : ∃ r, k % 32 = r := ⟨_, rfl⟩
          have hdn : d < n := by omega
          have hr32 : r < 32 := by omega
          rw [hd] at hq0 hq1
          rw [hr] at hq1
          have hor := bit_or hq1
          have hset := val_set 4294967296 q d
          obtain ⟨u, hu⟩ : ∃ u, q.getD d 0 = u := ⟨_, rfl⟩
          rw [hu] at hor hq1
          have hul : u < 4294967296 := by rw [← hu]; exact getD_lt (by omega) hqb.out d
          have hs1 := hset (u + 2 ^ r) (by rw [hql.out]; exact hdn)
          rw [hu] at hs1
          have hp32 : 2 ^ r < 4294967296 := by
            have := Nat.pow_lt_pow_right (a := 2) (by omega) hr32
            exact Nat.lt_of_lt_of_le this (by decide)
          have hvl : u + 2 ^ r < 4294967296 := by rw [← hor]; exact Nat.or_lt_two_pow (n := 32) hul hp32
          obtain ⟨P, hP⟩ : ∃ P, 2 ^ r = P := ⟨_, rfl⟩
          rw [hP] at hor hs1 hp32 hvl
          have hPI : (2 : Int) ^ r = (P : Int) := by rw [← hP]; push_cast; rfl
          have hqI : (k : Int) / 32 = (d : Int) := by omega
          have hrI : (k : Int) % 32 = (r : Int) := by omega
          have hqI2 : (k : Int).tdiv 32 = (d : Int) := by rw [← hqI]; exact Int.tdiv_eq_ediv_of_nonneg (by omega)
          have hrI2 : (k : Int).tmod 32 = (r : Int) := by rw [← hrI]; exact Int.tmod_eq_emod_of_nonneg (by omega)
          have o1 : bits BinOp.or .u32 (u : Int) (P : Int) = (u : Int) + P := by rw [u32_or_nat u P hul hp32, hor]; push_cast; rfl
          have hql' : Hid ((q.set d (u + P)).length = n) := Lib.hid (by rw [List.length_set]; exact hql.out)
          have hqb' : Hid (∀ z ∈ q.set d (u + P), z < 4294967296) := Lib.hid (by
            intro z hz
            rcases List.mem_or_eq_of_mem_set hz with h | h
            · exact hqb.out z h
            · omega)
          have hRv' : Hid (R - X < vb * 2 ^ k) := Lib.hid (by have := gRX.out; rw [gvX.out]; omega)
          have hW : 4294967296 ^ d * P = 2 ^ k := by rw [pow32, ← hP, ← Nat.pow_add]; congr 1; omega
          have hv' : Hid (va = val 4294967296 (q.set d (u + P)) * vb + (R - X)) := Lib.hid (by
            rw [Nat.mul_add, hW] at hs1
            have e1 : val 4294967296 (q.set d (u + P)) = val 4294967296 q + 2 ^ k := by omega
            have e2 := gvX.out
            rw [hv.out, e1, Nat.add_mul, Nat.mul_comm (2 ^ k) vb, e2]
            omega)
          have hqz' : Hid (LowZ (q.set d (u + P)) k) := Lib.hid (by
            refine ⟨fun i hi => ?_, ?_⟩
            · rw [getD_set (by rw [hql.out]; exact hdn), if_neg (by omega)]
              exact hq0 i (by omega)
            · rw [hd, hr, getD_set (by rw [hql.out]; exact hdn), if_pos rfl, ← hP]
              have h2 := hq2.2
              rw [hd, hr, hu] at h2
              rw [Nat.add_mod, h2, Nat.mod_self]; simp)
          have zc : ∀ w' (h : Blk w' g 45 (ints .u32 q).toArray), w'.cell? ⟨g, d, none⟩ = some (.int .u32 (u : Int)) := fun w' h => by
            rw [h.cell]; simp only [List.getElem?_toArray]; rw [ints_at .u32 (by rw [hql.out]; exact hdn), hu]
          have hK' := fun w' (h : Blk w' g 45 (ints .u32 q).toArray) => (by
            have h2 := h.set_ d (.int .u32 ((u : Int) + P))
            rw [ints_set _ _ _ (by omega), show ((u : Int) + P).toNat = u + P by omega] at h2
            exact h2 : Blk (w'.setCell ⟨g, d, none⟩ (.int .u32 ((u : Int) + P))) g 45 (ints .u32 (q.set d (u + P))).toArray)
          have gm3 := Lib.hid hm3
          have gzc := Lib.hid zc
          have gK' := Lib.hid hK'
          have gle := Lib.hid hle
          have gPI := hPI
          have i1 : (0 : Int) ≤ (d : Int) := by omega
          have i2 : (d : Int) < n := by omega
          clear hm3 hmxm hle hq0 hq1 hq2 hor hset hs1 hP hvl hul hu hql hqb hqz hv hW zc hK' hT0 hT hlt hOx gRX hvb0 gleft gna hd hr
          refine ho.mono ?_
          rintro en w2 ⟨rfl, qd, hqd⟩
          have hb2 : Below w1.heap.size w1 w2 := by rw [hqd]; exact below_drewN (Below.refl _ _) qd
          have hK2 := hK1.below hb2 hK1.lt
          have hB2 := hB1.trans (hb2.mono hB1.size)
          have hl2 := gle.out w2 hb2
          clear hqd hb2 hO1 hK1 hB1 ho
          have zl2 := hK2.lt
          go_wp2_with fail
          refine hl2.mono ?_
          rintro en w3 ⟨Ay, rfl, hOy, hb3⟩
          have hK3 := hK2.below hb3 zl2
          have hB3 := hB2.trans (hb3.mono hB2.size)
          have zc := gzc.out w3 hK3
          have zf := hK3.frozen d
          have zl := hK3.lt
          have hne' : Hid (∀ ad, Ay = some ad → 0 < m3 → ad.block ≠ g) := Lib.hid (fun ad e h0 => by
            obtain ⟨g', _, hA, hg', _⟩ := hOy.2 h0
            rw [e] at hA
            injection hA with hA
            rw [hA]
            show g' ≠ g
            omega)
          have hK4 := gK'.out w3 hK3
          have hB4 := hB3.setCell (p := ⟨g, d, none⟩) hg (.int .u32 ((u : Int) + P))
          have hO4 := (hOy.apart (p := ⟨g, d, none⟩) (fun ad e h0 => hne'.out ad e h0) (.int .u32 ((u : Int) + P))).base_le (Nat.le_trans (Nat.le_trans hg (Nat.le_of_lt zl2)) (Nat.le_refl _))
          clear hl2 hOy hb3 hK2 hB2 hK3 hB3 gle gzc gK'
          go_wp2
          go_region
          go_wp2
          go_roundw
          case rel => exact ⟨k, (k : Int) - 1, R - X, m3, Ay, m3, q.set d (u + P), by first | rfl | go_num, fun _ => rfl, fun h => by omega, by omega, by omega, by omega, rfl, Nat.le_refl _, by omega, gm3, hRv', hql', hqb', hqz', hv', hO4, hne', hK4, Below.drew hB4⟩
          case measure => simp [intOf] <;> omega
end Go.Proofs.YtaklmkjldmbleaaDoor
