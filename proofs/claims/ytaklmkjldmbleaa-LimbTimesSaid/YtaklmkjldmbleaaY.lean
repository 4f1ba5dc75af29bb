/- Limb: the reference's Mul and Div. -/
import Derived.Test.YtaklmkjldmbleaaX
namespace Go.Proofs.Ytaklmkjldmbleaa
open Go.ChangeShapes Go.WideShapes Go.ChangeAt Go.RowKit
set_option linter.unusedSimpArgs false
set_option linter.unusedVariables false
section
variable (A A2 : Option Addr) (n n2 c c2 : Nat) (a b : List Nat) (hn : a.length = n) (hn2 : b.length = n2) (ha : ∀ x ∈ a, x < 4294967296) (hb : ∀ x ∈ b, x < 4294967296) (w : World) (hR : Reads w w.heap.size 1 A n (ints .u32 a)) (hR2 : Reads w w.heap.size 1 A2 n2 (ints .u32 b))
include hn hn2 ha hb hR hR2 in
set_option maxHeartbeats 4000000 in
theorem rmul_any :
    Calls Try.prog 20 #[.slice A n c, .slice A2 n2 c2] w (TRead w (mulS a b)) := by
  have hma := fun w (hR : Reads w w.heap.size 1 A n (ints .u32 a)) => rmay_any A n c w.heap.size a hn w hR
  have hmb := fun w (hR : Reads w w.heap.size 1 A2 n2 (ints .u32 b)) => rmay_any A2 n2 c2 w.heap.size b hn2 w hR
  have h1 := hma w hR
  have h2 := hmb w hR2
  cases hba : mayB a
  · have hbo : both a b = false := by unfold both; rw [hba]; rfl
    rw [show mulS a b = ([], 8) by unfold mulS; rw [hbo]; rfl]
    rw [hba] at h1
    clear hR hR2 ha hb hn hn2 hma hmb h2 hbo hba
    go_enter Try.func20, Try.ntmps20
    go_wp2_with (go_at_call 25; (with_reducible refine h1.mono ?_); rintro e w' ⟨rfl, rfl⟩)
    go_ret2
    exact tnil (Below.refl _ _) 8
  cases hbb : mayB b
  · have hbo : both a b = false := by unfold both; rw [hbb, hba]; rfl
    rw [show mulS a b = ([], 8) by unfold mulS; rw [hbo]; rfl]
    rw [hba] at h1
    rw [hbb] at h2
    clear hR hR2 ha hb hn hn2 hma hmb hbo hba hbb
    go_enter Try.func20, Try.ntmps20
    go_wp2_with (first | (go_at_call 25; (with_reducible refine h1.mono ?_); rintro e w' ⟨rfl, rfl⟩) | (go_at_call 25; (with_reducible refine h2.mono ?_); rintro e w' ⟨rfl, rfl⟩))
    go_ret2
    exact tnil (Below.refl _ _) 8
  have hbo : both a b = true := by unfold both; rw [hbb, hba]; rfl
  rw [hba] at h1
  rw [hbb] at h2
  have la := mayB_len hba
  have lb := mayB_len hbb
  obtain ⟨m1, hm1⟩ : ∃ m, (dig 2 (val 4294967296 a)).length = m := ⟨_, rfl⟩
  obtain ⟨m2, hm2⟩ : ∃ m, (dig 2 (val 4294967296 b)).length = m := ⟨_, rfl⟩
  have l1 : m1 ≤ 1280 := by rw [← hm1]; exact dig2_len la ha
  have l2 : m2 ≤ 1280 := by rw [← hm2]; exact dig2_len lb hb
  have hda := digits_any A n c a hn (by omega) ha m1 hm1
  have hdb := digits_any A2 n2 c2 b hn2 (by omega) hb m2 hm2
  obtain ⟨va, hva⟩ : ∃ v, val 4294967296 a = v := ⟨_, rfl⟩
  obtain ⟨vb, hvb⟩ : ∃ v, val 4294967296 b = v := ⟨_, rfl⟩
  have wa := val_dig (B := 2) (by omega) va
  have wb := val_dig (B := 2) (by omega) vb
  have da := dig_lt (B := 2) (by omega) va
  have db := dig_lt (B := 2) (by omega) vb
  have lva := val_lt ha
  have lvb := val_lt hb
  rw [hva] at hm1 hda lva
  rw [hvb] at hm2 hdb lvb
  rw [show mulS a b = overS (va * vb) by unfold mulS; rw [if_pos hbo, hva, hvb]]
  have gm1 := Lib.hid hm1
  have gm2 := Lib.hid hm2
  clear ha hb hn hn2 hma hmb hbo hba hbb hva hvb lva lvb hm1 hm2 la lb
  go_enter Try.func20, Try.ntmps20
  go_wp2_with (first | (go_at_call 25; (with_reducible refine h1.mono ?_); rintro e w' ⟨rfl, rfl⟩) | (go_at_call 25; (with_reducible refine h2.mono ?_); rintro e w' ⟨rfl, rfl⟩) | fail)
  refine (hda _ hR).mono ?_
  rintro e w1 ⟨A1, c1, rfl, hc1, r1, b1⟩
  go_wp2_with fail
  refine (hdb _ ((hR2.below b1).more b1.size)).mono ?_
  rintro e w2 ⟨A3, c3, rfl, hc3, r3, b2⟩
  have r1' := (r1.below b2).more b2.size
  have b3 := b1.trans (b2.mono b1.size)
  clear b1 b2 r1 hR hR2 hda hdb
  go_wp2_with fail
  obtain ⟨m3, hm3⟩ : ∃ m, (dig 2 (va * vb)).length = m := ⟨_, rfl⟩
  have l3 : m3 ≤ 2560 := by
    rw [← hm3]
    have e1 := val_lt da
    have e2 := val_lt db
    rw [wa, gm1.out] at e1
    rw [wb, gm2.out] at e2
    have := prod_len e1 e2
    omega
  have hp := times_any A1 A3 m1 m2 c1 c3 (dig 2 va) (dig 2 vb) gm1.out gm2.out (by omega) (by omega) da db m3 (by rw [wa, wb]; exact hm3) w2 r1' r3
  rw [wa, wb] at hp
  have gm3 := Lib.hid hm3
  clear r1' r3 gm1 gm2 wa wb da db hm3
  refine hp.mono ?_
  rintro e w3 ⟨A4, c4, rfl, hc4, r4, b4⟩
  have b5 := b3.trans (b4.mono b3.size)
  have ht := rtold_any A4 m3 c4 (va * vb) (dig 2 (va * vb)) gm3.out (by omega) hc4 (dig_lt (by omega) _) (val_dig (by omega) _) w3 r4
  clear hp b3 b4 r4 gm3
  go_wp2_with fail
  refine ht.mono ?_
  rintro e w4 ⟨A5, c5, rfl, hc5, r5, b6⟩
  go_wp2
  go_ret2
  exact ⟨A5, c5, rfl, hc5, r5, b5.trans (b6.mono b5.size)⟩
end
def BPost2 (w : World) (m N : Nat) (en : Ending) (w' : World) : Prop :=
  ∃ A c, en = .returned (.slice A m c) ∧ m ≤ c ∧ Reads w' w'.heap.size 1 A m (ints .u8 (dig 2 N)) ∧ Below w.heap.size w w' ∧ (∀ ad, A = some ad → w.heap.size ≤ ad.block)
theorem reads_far {w : World} {B n : Nat} {A : Option Addr} {xs : List Value} (h : Reads w B 1 A n xs) {p : Addr} (hp : ∀ ad, A = some ad → ad.block ≠ p.block) (u : Value) : Reads (w.setCell p u) B 1 A n xs := by
  refine ⟨h.1, fun h0 => ?_⟩
  obtain ⟨ad, e, hb, hc⟩ := h.2 h0
  refine ⟨ad, e, hb, fun j v hv => ?_⟩
  rw [World.cell?_setCell_other w p (ad.add j) u ?_]
  · exact hc j v hv
  · intro e2
    have := hp ad e
    apply this
    rw [e2, block_of_add]
set_option maxHeartbeats 4000000 in
theorem minus2_any (A A2 : Option Addr) (n n2 c c2 : Nat) (a b : List Nat) (hn : a.length = n) (hn2 : b.length = n2) (hm : n ≤ 20000) (hle : n2 ≤ n) (ha : ∀ x ∈ a, x < 2) (hb : ∀ x ∈ b, x < 2) (hba : val 2 b ≤ val 2 a) (m : Nat) (hL : (dig 2 (val 2 a - val 2 b)).length = m) (w : World) (hR : Reads w w.heap.size 1 A n (ints .u8 a)) (hR2 : Reads w w.heap.size 1 A2 n2 (ints .u8 b)) :
    Calls Try.prog 35 #[.slice A n c, .slice A2 n2 c2] w (BPost2 w m (val 2 a - val 2 b)) := by
  obtain ⟨i0, hi0, hz0, hz1, hz2⟩ := info_parts infoU8
  have pa := pre_all 2 a n (by omega)
  have pb := pre_all 2 b n (by omega)
  have hca := fun (k : Nat) (h : k ≤ 100000) (w : World) (hR : Reads w w.heap.size 1 A n (ints .u8 a)) => bit_at A n c w.heap.size k a hn (by omega) h w hR
  have hcb := fun (k : Nat) (h : k ≤ 100000) (w : World) (hR : Reads w w.heap.size 1 A2 n2 (ints .u8 b)) => bit_at A2 n2 c2 w.heap.size k b hn2 (by omega) h w hR
  have gn := Lib.hid hn
  clear hn hn2
  go_enter Try.func35, Try.ntmps35
  go_wp2
  go_loopw [5, 6, 7] (fun o cy i wr => ∃ (k q : Nat) (L : List Nat) (Ao : Option Addr) (co : Nat), k ≤ n ∧ i = .int .i64 (k : Int) ∧ cy = .int .u8 (q : Int) ∧ q ≤ 1 ∧ o = .slice Ao k co ∧ Hid (L.length = k) ∧ (∀ x ∈ L, x < 2) ∧ Hid (pre 2 a k + 2 ^ k * q = val 2 L + pre 2 b k) ∧ wr.ownsRow w.heap.size 5 1 (.slice Ao k co) k (ints .u8 L) ∧ Below w.heap.size w wr) (fun _ _ i _ => n - (intOf i).toNat)
  case atStart => exact ⟨0, 0, [], none, 0, Nat.zero_le _, rfl, rfl, by omega, rfl, Lib.hid rfl, by simp, Lib.hid rfl, World.ownsRow_nil _ _ _ _, Below.refl _ _⟩
  case round =>
    obtain ⟨k, q, L, Ao, co, hk, rfl, rfl, hq, rfl, hLl, hLb, hv, hown, hB⟩ := hrel
    have hz := hB.size
    by_cases hlt : k < n
    · have ca := hca k (by omega) wr ((hR.below hB).more hz)
      have cb := hcb k (by omega) wr ((hR2.below hB).more hz)
      have xa := getD_lt (B := 2) (by omega) ha k
      have xb := getD_lt (B := 2) (by omega) hb k
      have va := pre_succ 2 a k
      have vb := pre_succ 2 b k
      obtain ⟨x, hx⟩ : ∃ x, a.getD k 0 = x := ⟨_, rfl⟩
      obtain ⟨y, hy⟩ : ∃ y, b.getD k 0 = y := ⟨_, rfl⟩
      rw [hx] at ca va xa
      rw [hy] at cb vb xb
      obtain ⟨d, hd⟩ : ∃ d, d = x + 2 - y - q := ⟨_, rfl⟩
      have hd3 : d ≤ 3 := by omega
      have hv' : Hid (pre 2 a (k + 1) + 2 ^ (k + 1) * (1 - d / 2) = val 2 (L ++ [d % 2]) + pre 2 b (k + 1)) := Lib.hid (by
        have := minus_step xa xb hq hd hv.out
        rw [val_snoc, hLl.out, va, vb]
        omega)
      have hLb' : ∀ z ∈ L ++ [d % 2], z < 2 := by
        intro z hz
        rcases List.mem_append.1 hz with h | h
        · exact hLb z h
        · simp at h; omega
      have hLl' : Hid ((L ++ [d % 2]).length = k + 1) := Lib.hid (by simp; exact hLl.out)
      have hdI : (x : Int) + 2 - y - q = (d : Int) := by omega
      have gd := Lib.hid hd
      clear hca hcb hR hR2 hx hy va vb hv hLl hLb ha hb pa pb hd
      go_wp2_with (first
        | (go_at_call 46; (with_reducible refine ca.mono ?_); rintro e w' ⟨rfl, rfl⟩)
        | (go_at_call 46; (with_reducible refine cb.mono ?_); rintro e w' ⟨rfl, rfl⟩)
        | (at_builtin; refine wpList_push rfl (.tmp 25) (.tmp 28) 47 rfl w.heap.size 5 i0 _ 1 1 Try.underlying47 hi0 hz0 hz1 hz2 rfl (by omega) hB (Nat.le_refl _) (.slice Ao k co) k (ints .u8 L) rfl hown [.int .u8 _] rfl (one_int _ _) rfl (by unfold maxLen; omega) (by omega) ?_; intro v4 w4 ho4 hb4; rw [ints_push _ _ (by omega)] at ho4; obtain ⟨A4, c4, rfl, _, _⟩ := own_slice ho4))
      rw [show (d : Int) % 2 = ((d % 2 : Nat) : Int) by omega, Int.toNat_natCast] at ho4
      go_roundw
      case rel => exact ⟨k + 1, 1 - d / 2, L ++ [d % 2], A4, c4, by omega, by go_num, by first | rfl | go_num | (congr 1; omega), by omega, rfl, hLl', hLb', hv', ho4, hb4⟩
      case measure => simp [intOf] <;> omega
    · obtain rfl : k = n := by omega
      have hv2 := hv.out
      rw [pa, pb] at hv2
      have hVL := val_lt hLb
      rw [hLl.out] at hVL
      have q0 : q = 0 := by
        rcases Nat.eq_zero_or_pos q with h | h
        · exact h
        · have : q = 1 := by omega
          subst this
          omega
      subst q0
      have hv3 : val 2 L = val 2 a - val 2 b := by omega
      obtain ⟨ht, hmk⟩ := dig_take (B := 2) (by omega) hLb hv3 hL
      rw [hLl.out] at hmk
      have hRo := Reads.of_own hown
      have hcap : k ≤ co := by
        rcases hown.2 with ⟨_, h⟩ | ⟨_, _, _, h, _, _, h3, _⟩
        · omega
        · injection h with _ _ h; omega
      have hcut := rcut_any Ao k co wr.heap.size L hLl.out (by omega) hcap hLb wr hRo m (by rw [hv3]; exact hL)
      have hres := reads_take hLl.out hRo hmk
      have hfr : ∀ ad, Ao = some ad → w.heap.size ≤ ad.block := fun ad e => own_base hown (by rw [e]; rfl)
      rw [ht] at hres
      clear hca hcb hR hR2 hv hv2 hv3 hVL hLl hLb ha hb pa pb ht hown hRo gn hL hba
      go_wp2_with (go_at_call 47; refine hcut.mono ?_; rintro e w' ⟨rfl, rfl⟩)
      go_ret
      exact ⟨Ao, co, rfl, by omega, hres, hB, hfr⟩
theorem ints_put8 (l : List Nat) (i v : Nat) : (ints .u8 l).toArray.setIfInBounds i (.int .u8 (v : Int)) = (ints .u8 (l.set i v)).toArray := by
  apply Array.ext'
  rw [Array.toList_setIfInBounds]
  simp [ints, List.map_set]
theorem into_step {x r v T q : Nat} (h : T = q * v + r) : x + 2 * T = 2 * q * v + (x + 2 * r) := by
  rw [h, Nat.mul_add, Nat.mul_assoc]
  omega
theorem drop_cons_set {l : List Nat} {k v : Nat} (h : k < l.length) : (l.set k v).drop k = v :: l.drop (k + 1) := by
  rw [List.drop_eq_getElem_cons (by rw [List.length_set]; exact h)]
  rw [List.getElem_set_self]
  congr 1
  apply List.ext_getElem
  · simp
  · intro i h1 h2
    simp only [List.getElem_drop]
    rw [List.getElem_set_ne (by omega)]
theorem drop_cons {l : List Nat} {k : Nat} (h : k < l.length) : l.drop k = l.getD k 0 :: l.drop (k + 1) := by
  rw [List.drop_eq_getElem_cons h, List.getD_eq_getElem?_getD, List.getElem?_eq_getElem h]
  rfl
def IPost (w : World) (m1 m2 Q R : Nat) (en : Ending) (w' : World) : Prop :=
  ∃ A1 c1 A2 c2, en = .returned (.tuple #[.slice A1 m1 c1, .slice A2 m2 c2]) ∧ m1 ≤ c1 ∧ m2 ≤ c2 ∧ Reads w' w'.heap.size 1 A1 m1 (ints .u8 (dig 2 Q)) ∧ Reads w' w'.heap.size 1 A2 m2 (ints .u8 (dig 2 R)) ∧ Below w.heap.size w w'
set_option maxRecDepth 100000 in
set_option maxHeartbeats 8000000 in
theorem into_any (A A2 : Option Addr) (n n2 c c2 : Nat) (a b : List Nat) (hn : a.length = n) (hn2 : b.length = n2) (hm : n ≤ 1400) (hm2 : n2 ≤ 1400) (ha : ∀ x ∈ a, x < 2) (hb : ∀ x ∈ b, x < 2) (hbc : Canon b) (hb0 : 0 < val 2 b) (m1 m2 : Nat) (hL1 : (dig 2 (val 2 a / val 2 b)).length = m1) (hL2 : (dig 2 (val 2 a % val 2 b)).length = m2) (w : World) (hR : Reads w w.heap.size 1 A n (ints .u8 a)) (hR2 : Reads w w.heap.size 1 A2 n2 (ints .u8 b)) :
    Calls Try.prog 43 #[.slice A n c, .slice A2 n2 c2] w (IPost w m1 m2 (val 2 a / val 2 b) (val 2 a % val 2 b)) := by
  obtain ⟨i0, hi0, hz0, hz1, hz2⟩ := info_parts infoU8
  have hmk := run_z8 n (by omega)
  have hB0 := (Below.refl w.heap.size w).alloc (Nat.le_refl _) (Z8 n)
  have hK0 : Blk (w.alloc (Z8 n)) w.heap.size 5 (ints .u8 (List.replicate n 0)).toArray := Blk.new w 5 _
  obtain ⟨Z, hZ⟩ : ∃ Z, Z8 n = Z := ⟨_, rfl⟩
  rw [hZ] at hB0 hK0
  simp only [hZ] at hmk
  obtain ⟨V, hV⟩ : ∃ V, val 2 b = V := ⟨_, rfl⟩
  have hbe := canon_eq (B := 2) (by omega) hb hbc
  have lvb := val_lt hb
  rw [hn2] at lvb
  have hord := fun (X : Option Addr) (m d R : Nat) (hmR : (dig 2 R).length = m) (hml : m ≤ 90000) (w' : World) (hw : Below w.heap.size w w') (r1 : Reads w' w'.heap.size 1 X m (ints .u8 (dig 2 R))) => rorder_any X A2 m n2 d c2 w'.heap.size w.heap.size (dig 2 R) b hmR hn2 hml (by omega) (dig_lt (by omega) R) hb w' r1 (hR2.below hw)
  have hmin := fun (X : Option Addr) (m d R : Nat) (hmR : (dig 2 R).length = m) (hml : m ≤ 20000) (hle : val 2 b ≤ R) (w' : World) (hw : Below w.heap.size w w') (r1 : Reads w' w'.heap.size 1 X m (ints .u8 (dig 2 R))) => minus2_any X A2 m n2 d c2 (dig 2 R) b hmR hn2 hml (by
      have h1 := val_lt (dig_lt (B := 2) (by omega) R)
      rw [val_dig (by omega), hmR] at h1
      rw [← hn2, hbe]
      exact dig_len_le (by omega) (by omega)) (dig_lt (by omega) R) hb (by rw [val_dig (by omega)]; exact hle) _ rfl w' r1 ((hR2.below hw).more hw.size)
  simp only [val_dig (B := 2) (Nat.le_refl 2)] at hord hmin
  rw [hV] at hL1 hL2 lvb hb0
  simp only [hV] at hord hmin
  rw [hV]
  have gn := Lib.hid hn
  have gL1 := Lib.hid hL1
  have gL2 := Lib.hid hL2
  have gord := Lib.hid hord
  have gmin := Lib.hid hmin
  have gV := Lib.hid lvb
  clear hn hn2 hL1 hL2 hZ hV hbe lvb hbc hb hR2 hord hmin
  go_enter Try.func43, Try.ntmps43
  go_wp2
  go_loopw [7, 8] (fun o i wr => ∃ (k m : Nat) (q : List Nat) (R : Nat) (Ao : Option Addr) (co : Nat), k ≤ n ∧ i = .int .i64 ((k : Int) - 1) ∧ o = .slice Ao m co ∧ m ≤ co ∧ m ≤ 1400 ∧ Hid ((dig 2 R).length = m) ∧ R < V ∧ Hid (q.length = n) ∧ Hid (∀ x ∈ q, x < 2) ∧ Hid (∀ j, j < k → q.getD j 0 = 0) ∧ Hid (val 2 (a.drop k) = val 2 (q.drop k) * V + R) ∧ Reads wr wr.heap.size 1 Ao m (ints .u8 (dig 2 R)) ∧ Blk wr w.heap.size 5 (ints .u8 q).toArray ∧ Below w.heap.size w wr) (fun _ i _ => (intOf i + 1).toNat)
  case atStart => exact ⟨n, 0, List.replicate n 0, 0, none, 0, Nat.le_refl _, rfl, rfl, Nat.le_refl _, by omega, Lib.hid (by rw [dig_zero]; rfl), hb0, Lib.hid (by simp), Lib.hid (fun x hx => by rw [(List.mem_replicate.1 hx).2]; omega), Lib.hid (fun j hj => by rw [List.getD_eq_getElem?_getD, List.getElem?_replicate]; split <;> rfl), Lib.hid (by rw [List.drop_of_length_le (by rw [gn.out]; exact Nat.le_refl _), List.drop_of_length_le (by simp)]; simp [val]), by rw [dig_zero]; exact Reads.none_, hK0, hB0⟩
  case round =>
    clear hmk hB0 hK0
    obtain ⟨k, m, q, R, Ao, co, hk, rfl, rfl, hco, hml, hmR, hRV, hql, hqb, hq0, hv, hr, hK, hB⟩ := hrel
    have hz := hB.size
    have zl := hK.lt
    rcases Nat.eq_zero_or_pos k with rfl | hp
    · have hv2 := hv.out
      rw [List.drop_zero, List.drop_zero] at hv2
      have e1 : val 2 q = val 2 a / V := by rw [hv2, Nat.mul_comm, Nat.mul_add_div hb0, Nat.div_eq_of_lt hRV, Nat.add_zero]
      have e2 : R = val 2 a % V := by rw [hv2, Nat.mul_comm, Nat.mul_add_mod, Nat.mod_eq_of_lt hRV]
      have hO := own_of_make hK (Nat.le_refl _)
      simp only [List.size_toArray, List.length_map, hql.out] at hO
      obtain ⟨ht, hmq⟩ := dig_take (B := 2) (by omega) hqb.out e1 gL1.out
      rw [hql.out] at hmq
      have hcut := rcut_any (some ⟨w.heap.size, 0, none⟩) n n wr.heap.size q hql.out (by omega) (Nat.le_refl _) hqb.out wr hO.reads m1 (by rw [e1]; exact gL1.out)
      have hres := (hO.cut hmq).reads
      rw [← List.map_take, ht] at hres
      rw [e2] at hr hmR
      have hmm : m = m2 := by rw [← hmR.out, gL2.out]
      subst hmm
      clear hv hv2 e1 e2 hO ht hql hqb hq0 hmR gL1 gL2 gord gmin gV hR hK ha hRV
      go_wp2_with (go_at_call 47; (with_reducible refine hcut.mono ?_); rintro e w' ⟨rfl, rfl⟩)
      go_ret2
      exact ⟨_, n, Ao, co, rfl, hmq, hco, hres, hr, hB⟩
    · obtain ⟨j, rfl⟩ : ∃ j, k = j + 1 := ⟨k - 1, by omega⟩
      obtain ⟨ad, rfl, hab, cA⟩ := at_ints gn.out (hR.below hB) (show j < n by omega)
      have xa := getD_lt (B := 2) (by omega) ha j
      have hda := drop_cons (l := a) (k := j) (by rw [gn.out]; omega)
      have hdq := drop_cons (l := q) (k := j) (by rw [hql.out]; omega)
      have hqj := hq0.out j (by omega)
      obtain ⟨x, hx⟩ : ∃ x, a.getD j 0 = x := ⟨_, rfl⟩
      rw [hx] at cA xa hda
      rw [hqj] at hdq
      have hval : val 2 (a.drop j) = 2 * val 2 (q.drop (j + 1)) * V + (x + 2 * R) := by rw [hda, val_cons]; exact into_step hv.out
      have j2 : ((j + 1 : Nat) : Int) - 1 = j := by omega
      have i1 : (0 : Int) ≤ j := by omega
      have i2 : (j : Int) < n := by omega
      obtain ⟨R1, hR1⟩ : ∃ R1, x + 2 * R = R1 := ⟨_, rfl⟩
      rw [hR1] at hval
      have hR1b : R1 < 2 ^ (n2 + 1) := by have := gV.out; rw [Nat.pow_succ]; omega
      obtain ⟨m3, hm3⟩ : ∃ m, (dig 2 R1).length = m := ⟨_, rfl⟩
      have hm3l : m3 ≤ 1401 := by rw [← hm3]; have := dig_len_le (B := 2) (by omega) hR1b; omega
      have hl1 : ∀ z ∈ x :: dig 2 R, z < 2 := by
        intro z hz
        rcases List.mem_cons.1 hz with rfl | h
        · exact xa
        · exact dig_lt (by omega) R z h
      have hv1 : val 2 (x :: dig 2 R) = R1 := by rw [val_cons, val_dig (by omega), hR1]
      have hll : (x :: dig 2 R).length = 1 + m := by rw [List.length_cons, hmR.out]; omega
      obtain ⟨ht, hm3m⟩ := dig_take (B := 2) (by omega) hl1 hv1 hm3
      rw [hll] at hm3m
      have hcutf := fun (X : Option Addr) (d : Nat) (hd : 1 + m ≤ d) (w' : World) (r1 : Reads w' w'.heap.size 1 X (1 + m) (ints .u8 (x :: dig 2 R))) => rcut_any X (1 + m) d w'.heap.size (x :: dig 2 R) hll (by omega) hd hl1 w' r1 m3 (by rw [hv1]; exact hm3)
      have gcut := Lib.hid hcutf
      have gll := Lib.hid hll
      have ght := Lib.hid ht
      have gm3 := Lib.hid hm3
      have gval := Lib.hid hval
      have gdq := Lib.hid hdq
      rw [j2]
      clear hda hdq hqj hx hv hl1 hv1 hll ht hcutf hm3 hval j2 hR ha
      obtain ⟨T, hT⟩ : ∃ T, cmpI R1 V = T := ⟨_, rfl⟩
      have hR12 : R1 < V + V := by omega
      have hqc : wr.cell? ⟨w.heap.size, j, none⟩ = some (.int .u8 ((q.getD j 0 : Nat) : Int)) := by rw [hK.cell]; simp only [List.getElem?_toArray]; exact ints_at .u8 (by rw [hql.out]; omega)
      have hr1 := hr.alloc (Nat.le_refl _) (.cells #[.int .u8 (x : Int)] 5)
      have hown := owns_new wr wr.heap.size (Nat.le_refl _) [.int .u8 (x : Int)] 5 1 rfl (by unfold maxLen; omega)
      have hB1 := hB.alloc hz (.cells #[.int .u8 (x : Int)] 5)
      have hK1 := hK.alloc (.cells #[.int .u8 (x : Int)] 5)
      have hsz : wr.heap.size ≤ (wr.alloc (.cells #[.int .u8 (x : Int)] 5)).heap.size := by rw [World.size_alloc]; omega
      go_wp2_with (at_builtin; refine wpList_append_any _ rfl (.tmp 23) (.tmp 24) 47 rfl wr.heap.size 5 i0 _ 1 1 Try.underlying47 hi0 hz0 hz1 hz2 rfl (by omega) (.slice (some ⟨wr.heap.size, 0, none⟩) 1 1) 1 [.int .u8 (x : Int)] rfl hown wr.heap.size Ao m co (ints .u8 (dig 2 R)) rfl hr1 (ints_one _ _) (by unfold maxLen; omega) (by omega) hsz ?_; intro v4 w4 ho4 hg4 _; obtain ⟨A4, c4, rfl, hc4, hr4⟩ := own_slice ho4)
      have hB4 := hB1.grown hg4 (Nat.le_trans hz hsz) (fun q hq => Nat.le_trans hz (own_base hown hq))
      have hK4 := hK1.grown hg4 (by intro e; have := own_base hown e.symm; omega)
      have hr5 : Reads w4 w4.heap.size 1 A4 (1 + m) (ints .u8 (x :: dig 2 R)) := hr4
      have hr6 := reads_take gll.out hr5 hm3m
      rw [ght.out] at hr6
      refine (gcut.out A4 c4 hc4 w4 hr5).mono ?_
      rintro en w5 ⟨rfl, rfl⟩
      have ho := gord.out A4 m3 c4 R1 gm3.out (by omega) w4 hB4 hr6
      rw [hT] at ho
      clear hr hr1 hown hB1 hK1 hsz hr4 ho4 hg4 hr5 gcut gll ght hB hK hqc cA
      have z4 := hK4.lt
      by_cases hge : V ≤ R1
      · have hT0 : 0 ≤ T := by rw [← hT]; unfold cmpI; rw [if_neg (by omega)]; split <;> decide
        have t0 : decide (0 ≤ T) = true := decide_eq_true hT0
        obtain ⟨m5, hm5⟩ : ∃ m, (dig 2 (R1 - V)).length = m := ⟨_, rfl⟩
        have hmi := gmin.out A4 m3 c4 R1 gm3.out (by omega) hge w4 hB4 hr6
        rw [hm5] at hmi
        have gm5 := Lib.hid hm5
        have hm5l : m5 ≤ 1400 := by rw [← hm5]; have := dig_len_le (B := 2) (by omega) (show R1 - V < 2 ^ n2 by have := gV.out; omega); omega
        have hRV' : R1 - V < V := by omega
        have hql' : Hid ((q.set j 1).length = n) := Lib.hid (by rw [List.length_set]; exact hql.out)
        have hqb' : Hid (∀ z ∈ q.set j 1, z < 2) := Lib.hid (by
          intro z hz
          rcases List.mem_or_eq_of_mem_set hz with h | h
          · exact hqb.out z h
          · omega)
        have hq0' : Hid (∀ i, i < j → (q.set j 1).getD i 0 = 0) := Lib.hid (fun i hi => by
          rw [List.getD_eq_getElem?_getD, List.getElem?_set, if_neg (by omega), ← List.getD_eq_getElem?_getD]
          exact hq0.out i (by omega))
        have hv' : Hid (val 2 (a.drop j) = val 2 ((q.set j 1).drop j) * V + (R1 - V)) := Lib.hid (by
          rw [drop_cons_set (by rw [hql.out]; omega), val_cons, gval.out, Nat.add_mul, Nat.one_mul]
          omega)
        have gqn := hql.out
        have cq : (ints .u8 q).toArray[j]? = some (.int .u8 ((q.getD j 0 : Nat) : Int)) := by simp only [List.getElem?_toArray]; exact ints_at .u8 (by omega)
        have gc := Lib.hid cq
        clear hT hm5 hq0 hqb hql gval gdq gqn cq hge hT0
        go_wp2_with fail
        refine ho.mono ?_
        rintro en w5 ⟨rfl, rfl⟩
        go_wp2_with fail
        refine hmi.mono ?_
        rintro en w5 ⟨A5, c5, rfl, hc5, hr7, hb5, hfr⟩
        have hB5 := hB4.trans (hb5.mono hB4.size)
        have hK5 := hK4.below hb5 z4
        have zc : w5.cell? ⟨w.heap.size, j, none⟩ = some (.int .u8 ((q.getD j 0 : Nat) : Int)) := by rw [hK5.cell]; exact gc.out
        obtain ⟨u, hu⟩ : ∃ u, q.getD j 0 = u := ⟨_, rfl⟩
        rw [hu] at zc
        have zf := hK5.frozen j
        have z5 := hK5.lt
        have hK6 := hK5.set_ j (.int .u8 ((1 : Nat) : Int))
        rw [ints_put8 q j 1] at hK6
        have hB6 := hB5.setCell (p := ⟨w.heap.size, j, none⟩) (Nat.le_refl _) (.int .u8 ((1 : Nat) : Int))
        have hr8 : Reads (w5.setCell ⟨w.heap.size, j, none⟩ (.int .u8 ((1 : Nat) : Int))) (w5.setCell ⟨w.heap.size, j, none⟩ (.int .u8 ((1 : Nat) : Int))).heap.size 1 A5 m5 (ints .u8 (dig 2 (R1 - V))) := by
          rw [World.size_setCell]
          exact reads_far hr7 (fun ad e => by have := hfr ad e; show ad.block ≠ w.heap.size; omega) _
        clear ho hmi hr6 hfr hb5 hB4 hK4 hB5 hK5 hr7 hu gord gmin gc
        go_wp2
        go_roundw
        case rel => exact ⟨j, m5, q.set j 1, R1 - V, A5, c5, by omega, by first | rfl | go_num, rfl, hc5, hm5l, gm5, hRV', hql', hqb', hq0', hv', hr8, hK6, hB6⟩
        case measure => simp [intOf] <;> omega
      · have hT0 : T < 0 := by rw [← hT]; unfold cmpI; rw [if_pos (by omega)]; decide
        have t0 : decide (0 ≤ T) = false := decide_eq_false (by omega)
        have hm3l2 : m3 ≤ 1400 := by rw [← gm3.out]; have := dig_len_le (B := 2) (by omega) (show R1 < 2 ^ n2 by have := gV.out; omega); omega
        have hv' : Hid (val 2 (a.drop j) = val 2 (q.drop j) * V + R1) := Lib.hid (by rw [gdq.out, val_cons, gval.out]; simp)
        have hq0' : Hid (∀ i, i < j → q.getD i 0 = 0) := Lib.hid (fun i hi => hq0.out i (by omega))
        clear hT hq0 gval gdq hT0 gord gmin
        go_wp2_with fail
        refine ho.mono ?_
        rintro en w5 ⟨rfl, rfl⟩
        go_wp2
        go_roundw
        case rel => exact ⟨j, m3, q, R1, A4, c4, by omega, by first | rfl | go_num, rfl, by omega, hm3l2, gm3, by omega, hql, hqb, hq0', hv', hr6, hK4, hB4⟩
        case measure => simp [intOf] <;> omega
/-- What a division answers: quotient, rest, error. -/
def divS (a b : List Nat) : List Nat × List Nat × Int := if both a b = true then (if b.length = 0 then ([], [], 2) else (dig 4294967296 (val 4294967296 a / val 4294967296 b), dig 4294967296 (val 4294967296 a % val 4294967296 b), 0)) else ([], [], 8)
def DivRead (w : World) (R : List Nat × List Nat × Int) (en : Ending) (w' : World) : Prop :=
  ∃ A c A2 c2, en = .returned (.tuple #[.slice A R.1.length c, .slice A2 R.2.1.length c2, .int .i64 R.2.2]) ∧ Reads w' w'.heap.size 1 A R.1.length (ints .u32 R.1) ∧ Reads w' w'.heap.size 1 A2 R.2.1.length (ints .u32 R.2.1) ∧ Below w.heap.size w w'
theorem dnil {w w' : World} (hb : Below w.heap.size w w') (e : Int) : DivRead w ([], [], e) (.returned (.tuple #[.slice none 0 0, .slice none 0 0, .int .i64 e])) w' := ⟨none, 0, none, 0, rfl, Reads.none_, Reads.none_, hb⟩
section
variable (A A2 : Option Addr) (n n2 c c2 : Nat) (a b : List Nat) (hn : a.length = n) (hn2 : b.length = n2) (ha : ∀ x ∈ a, x < 4294967296) (hb : ∀ x ∈ b, x < 4294967296) (w : World) (hR : Reads w w.heap.size 1 A n (ints .u32 a)) (hR2 : Reads w w.heap.size 1 A2 n2 (ints .u32 b))
include hn hn2 ha hb hR hR2 in
set_option maxHeartbeats 4000000 in
theorem rdiv_any :
    Calls Try.prog 22 #[.slice A n c, .slice A2 n2 c2] w (DivRead w (divS a b)) := by
  have hma := fun w (hR : Reads w w.heap.size 1 A n (ints .u32 a)) => rmay_any A n c w.heap.size a hn w hR
  have hmb := fun w (hR : Reads w w.heap.size 1 A2 n2 (ints .u32 b)) => rmay_any A2 n2 c2 w.heap.size b hn2 w hR
  have h1 := hma w hR
  have h2 := hmb w hR2
  cases hba : mayB a
  · have hbo : both a b = false := by unfold both; rw [hba]; rfl
    rw [show divS a b = ([], [], 8) by unfold divS; rw [hbo]; rfl]
    rw [hba] at h1
    clear hR hR2 ha hb hn hn2 hma hmb h2 hbo hba
    go_enter Try.func22, Try.ntmps22
    go_wp2_with (go_at_call 25; (with_reducible refine h1.mono ?_); rintro e w' ⟨rfl, rfl⟩)
    go_ret3
    exact dnil (Below.refl _ _) 8
  cases hbb : mayB b
  · have hbo : both a b = false := by unfold both; rw [hbb, hba]; rfl
    rw [show divS a b = ([], [], 8) by unfold divS; rw [hbo]; rfl]
    rw [hba] at h1
    rw [hbb] at h2
    clear hR hR2 ha hb hn hn2 hma hmb hbo hba hbb
    go_enter Try.func22, Try.ntmps22
    go_wp2_with (first | (go_at_call 25; (with_reducible refine h1.mono ?_); rintro e w' ⟨rfl, rfl⟩) | (go_at_call 25; (with_reducible refine h2.mono ?_); rintro e w' ⟨rfl, rfl⟩))
    go_ret3
    exact dnil (Below.refl _ _) 8
  have hbo : both a b = true := by unfold both; rw [hbb, hba]; rfl
  rw [hba] at h1
  rw [hbb] at h2
  have la := mayB_len hba
  have lb := mayB_len hbb
  obtain ⟨m1, hm1⟩ : ∃ m, (dig 2 (val 4294967296 a)).length = m := ⟨_, rfl⟩
  obtain ⟨m2, hm2⟩ : ∃ m, (dig 2 (val 4294967296 b)).length = m := ⟨_, rfl⟩
  have l1 : m1 ≤ 1280 := by rw [← hm1]; exact dig2_len la ha
  have l2 : m2 ≤ 1280 := by rw [← hm2]; exact dig2_len lb hb
  have hda := digits_any A n c a hn (by omega) ha m1 hm1
  have hdb := digits_any A2 n2 c2 b hn2 (by omega) hb m2 hm2
  obtain ⟨va, hva⟩ : ∃ v, val 4294967296 a = v := ⟨_, rfl⟩
  obtain ⟨vb, hvb⟩ : ∃ v, val 4294967296 b = v := ⟨_, rfl⟩
  have wa := val_dig (B := 2) (by omega) va
  have wb := val_dig (B := 2) (by omega) vb
  have da := dig_lt (B := 2) (by omega) va
  have db := dig_lt (B := 2) (by omega) vb
  have lva := val_lt ha
  have lvb := val_lt hb
  rw [hva] at hm1 hda lva
  rw [hvb] at hm2 hdb lvb
  by_cases hz0 : n2 = 0
  · rw [show divS a b = ([], [], 2) by unfold divS; rw [if_pos hbo, if_pos (by omega)]]
    have t1 : ((n2 : Int) == 0) = true := by (simp <;> omega)
    have t2 : (n2 == 0) = true := by simpa using hz0
    clear ha hb hn hn2 hma hmb hbo hba hbb hva hvb lva lvb hm1 hm2 la lb hda hdb wa wb da db hR hR2 hz0
    go_enter Try.func22, Try.ntmps22
    go_wp2_with (first | (go_at_call 25; (with_reducible refine h1.mono ?_); rintro e w' ⟨rfl, rfl⟩) | (go_at_call 25; (with_reducible refine h2.mono ?_); rintro e w' ⟨rfl, rfl⟩))
    go_ret3
    exact dnil (Below.refl _ _) 2
  have t1 : ((n2 : Int) == 0) = false := by (simp <;> omega)
  have t2 : (n2 == 0) = false := by simpa using hz0
  have hvb0 : 0 < vb := by rw [← hvb]; exact canon_val_pos (by omega) (mayB_canon hbb) (by omega)
  rw [show divS a b = (dig 4294967296 (va / vb), dig 4294967296 (va % vb), 0) by unfold divS; rw [if_pos hbo, if_neg (by omega), hva, hvb]]
  have gm1 := Lib.hid hm1
  have gm2 := Lib.hid hm2
  clear ha hb hn hn2 hma hmb hbo hba hbb hva hvb lva lvb hm1 hm2 la lb
  go_enter Try.func22, Try.ntmps22
  go_wp2_with (first | (go_at_call 25; (with_reducible refine h1.mono ?_); rintro e w' ⟨rfl, rfl⟩) | (go_at_call 25; (with_reducible refine h2.mono ?_); rintro e w' ⟨rfl, rfl⟩) | fail)
  refine (hda _ hR).mono ?_
  rintro e w1 ⟨A1, c1, rfl, hc1, r1, b1⟩
  go_wp2_with fail
  refine (hdb _ ((hR2.below b1).more b1.size)).mono ?_
  rintro e w2 ⟨A3, c3, rfl, hc3, r3, b2⟩
  have r1' := (r1.below b2).more b2.size
  have b3 := b1.trans (b2.mono b1.size)
  clear b1 b2 r1 hR hR2 hda hdb
  go_wp2_with fail
  obtain ⟨q1, hq1⟩ : ∃ m, (dig 2 (va / vb)).length = m := ⟨_, rfl⟩
  obtain ⟨q2, hq2⟩ : ∃ m, (dig 2 (va % vb)).length = m := ⟨_, rfl⟩
  have e1 := val_lt da
  rw [wa, gm1.out] at e1
  have lq1 : q1 ≤ m1 := by rw [← hq1]; exact dig_len_le (by omega) (Nat.lt_of_le_of_lt (Nat.div_le_self _ _) e1)
  have lq2 : q2 ≤ m1 := by rw [← hq2]; exact dig_len_le (by omega) (Nat.lt_of_le_of_lt (Nat.mod_le _ _) e1)
  have hp := into_any A1 A3 m1 m2 c1 c3 (dig 2 va) (dig 2 vb) gm1.out gm2.out (by omega) (by omega) da db (dig_canon (by omega) vb) (by rw [wb]; exact hvb0) q1 q2 (by rw [wa, wb]; exact hq1) (by rw [wa, wb]; exact hq2) w2 r1' r3
  rw [wa, wb] at hp
  obtain ⟨p1, hp1⟩ : ∃ m, (dig 4294967296 (va / vb)).length = m := ⟨_, rfl⟩
  obtain ⟨p2, hp2⟩ : ∃ m, (dig 4294967296 (va % vb)).length = m := ⟨_, rfl⟩
  have gq1 := Lib.hid hq1
  have gq2 := Lib.hid hq2
  have gp1 := Lib.hid hp1
  have gp2 := Lib.hid hp2
  clear r1' r3 gm1 gm2 wa wb da db hq1 hq2 hp1 hp2 e1
  refine hp.mono ?_
  rintro e w3 ⟨A4, c4, A5, c5, rfl, hc4, hc5, r4, r5, b4⟩
  have b5 := b3.trans (b4.mono b3.size)
  have k1 := limbs_any A4 q1 c4 (dig 2 (va / vb)) gq1.out (by omega) hc4 (dig_lt (by omega) _) p1 (by rw [val_dig (by omega)]; exact gp1.out) w3 r4
  rw [val_dig (by omega)] at k1
  have k2 := fun w' (h : Below w3.heap.size w3 w') => limbs_any A5 q2 c5 (dig 2 (va % vb)) gq2.out (by omega) hc5 (dig_lt (by omega) _) p2 (by rw [val_dig (by omega)]; exact gp2.out) w' ((r5.below h).more h.size)
  rw [val_dig (B := 2) (by omega)] at k2
  have gk2 := Lib.hid k2
  clear hp b3 b4 r4 gq1 gq2 k2
  go_wp2_with fail
  refine k1.mono ?_
  rintro e w4 ⟨A6, c6, rfl, hc6, r6, b6⟩
  go_wp2_with fail
  refine (gk2.out w4 b6).mono ?_
  rintro e w5 ⟨A7, c7, rfl, hc7, r7, b7⟩
  have r8 := (r6.below b7).more b7.size
  have b8 := (b5.trans (b6.mono b5.size))
  have b9 := b8.trans (b7.mono b8.size)
  clear r6 b6 b7 b8 b5 gk2 k1
  go_wp2
  go_ret3
  refine ⟨A6, c6, A7, c7, ?_, ?_, ?_, b9⟩
  · simp only [gp1.out, gp2.out]; rfl
  · simp only [gp1.out]; exact r8
  · simp only [gp2.out]; exact r7
end
end Go.Proofs.Ytaklmkjldmbleaa
