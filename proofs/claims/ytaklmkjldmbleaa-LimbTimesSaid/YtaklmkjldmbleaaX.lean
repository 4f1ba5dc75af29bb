/- Limb: the reference's products and quotients. -/
import Derived.Test.YtaklmkjldmbleaaT
namespace Go.Proofs.Ytaklmkjldmbleaa
open Go.ChangeShapes Go.WideShapes Go.ChangeAt Go.RowKit
set_option linter.unusedSimpArgs false
set_option linter.unusedVariables false
def Z8 (n : Nat) : Obj := .cells (ints .u8 (List.replicate n 0)).toArray 5
theorem made8 (n : Nat) : (Obj.cells (madeCells (Value.int .u8 0).cells n) 5) = Z8 n := by
  unfold Z8 madeCells
  congr 1
  apply Array.ext
  · simp
  · intro i h1 h2
    simp [Value.cells, Nat.mod_one]
theorem run_z8 (n : Nat) (hn : n ≤ 100000) (w : World) : (Instr.makeSlice 47 (.int .i64 (n : Int)) (.int .i64 (n : Int))).run Try.prog w = .ok (.slice (some ⟨w.heap.size, 0, none⟩) n n) (w.alloc (Z8 n)) := by
  obtain ⟨i0, hi0, hz0, hz1, hz2⟩ := info_parts infoU8
  have := run_make (P := Try.prog) w 47 5 i0 _ Try.underlying47 hi0 hz0 .i64 .i64 n n (by omega) (Int.le_refl _) (by rw [hz2]; omega) (by omega)
  rw [this, hz1, ← made8]
  simp
def t2 (a : List Nat) (k : Nat) : List Nat := if a.length = 0 then [] else List.replicate k 0 ++ a
theorem t2_val (a : List Nat) (k : Nat) : val 2 (t2 a k) = val 2 a * 2 ^ k := by
  unfold t2
  split
  · rename_i h
    rw [List.eq_nil_of_length_eq_zero h, val_nil, Nat.zero_mul]
  · rw [val_app, val_zero (l := List.replicate k 0) (fun x hx => (List.mem_replicate.1 hx).2), List.length_replicate, Nat.zero_add, Nat.mul_comm]
theorem t2_lt {a : List Nat} (ha : ∀ x ∈ a, x < 2) (k : Nat) : ∀ x ∈ t2 a k, x < 2 := by
  unfold t2
  split
  · intro x hx; cases hx
  · intro x hx
    rcases List.mem_append.1 hx with h | h
    · rw [(List.mem_replicate.1 h).2]; omega
    · exact ha x h
theorem t2_len (a : List Nat) (k : Nat) : (t2 a k).length ≤ k + a.length := by unfold t2; split <;> simp
set_option maxHeartbeats 4000000 in
theorem times2_any (A : Option Addr) (n c k : Nat) (a : List Nat) (hn : a.length = n) (hm : n ≤ 10000) (hk : k ≤ 10000) (m : Nat) (hL : (t2 a k).length = m) (w : World) (hR : Reads w w.heap.size 1 A n (ints .u8 a)) :
    Calls Try.prog 49 #[.slice A n c, .int .i64 (k : Int)] w fun en w' => ∃ Ao co, en = .returned (.slice Ao m co) ∧ m ≤ co ∧ Reads w' w'.heap.size 1 Ao m (ints .u8 (t2 a k)) ∧ Below w.heap.size w w' := by
  rcases Nat.eq_zero_or_pos n with h0 | h0
  · have e : t2 a k = [] := by unfold t2; rw [if_pos (by omega)]
    rw [e] at hL ⊢
    have hm0 : 0 = m := hL
    subst hm0 h0
    clear hR hL hn e
    go_enter Try.func49, Try.ntmps49
    go_wp2
    go_ret
    exact ⟨none, 0, rfl, Nat.le_refl _, Reads.none_, Below.refl _ _⟩
  · obtain ⟨i0, hi0, hz0, hz1, hz2⟩ := info_parts infoU8
    have e : t2 a k = List.replicate k 0 ++ a := by unfold t2; rw [if_neg (by omega)]
    have hm2 : k + n = m := by rw [← hL, e, List.length_append, List.length_replicate, hn]
    rw [e]
    subst hm2
    have hmk := run_z8 k (by omega)
    have hB0 := (Below.refl w.heap.size w).alloc (Nat.le_refl _) (Z8 k)
    have hO := owns_new w w.heap.size (Nat.le_refl _) (ints .u8 (List.replicate k 0)) 5 k (by simp) (by unfold maxLen; omega)
    obtain ⟨Z, hZ⟩ : ∃ Z, Z8 k = Z := ⟨_, rfl⟩
    have hZc : Obj.cells (ints .u8 (List.replicate k 0)).toArray 5 = Z := hZ
    rw [hZ] at hB0
    rw [hZc] at hO
    simp only [hZ] at hmk
    have hR1 := hR.alloc (Nat.le_refl _) Z
    have t1 : ((n : Int) == 0) = false := by (simp <;> omega)
    have t3 : (n == 0) = false := by (simp <;> omega)
    have hsz : w.heap.size ≤ (w.alloc Z).heap.size := by rw [World.size_alloc]; omega
    clear hn hL e hZ hZc hR
    go_enter Try.func49, Try.ntmps49
    go_wp2_with (at_builtin; refine wpList_append_any _ rfl (.tmp 9) (.tmp 10) 47 rfl w.heap.size 5 i0 _ 1 1 Try.underlying47 hi0 hz0 hz1 hz2 rfl (by omega) (.slice (some ⟨w.heap.size, 0, none⟩) k k) k (ints .u8 (List.replicate k 0)) rfl hO w.heap.size A n c (ints .u8 a) rfl hR1 (ints_one _ _) (by unfold maxLen; omega) (by omega) hsz ?_; intro v4 w4 ho4 hg4 _; obtain ⟨A4, c4, rfl, hc4, hr4⟩ := own_slice ho4)
    go_ret
    rw [ints_app] at hr4
    refine ⟨A4, c4, rfl, hc4, hr4, Below.grown hB0 hg4 hsz ?_⟩
    intro q hq
    exact own_base hO hq
theorem prod_len {x y n m : Nat} (hx : x < 2 ^ n) (hy : y < 2 ^ m) : (dig 2 (x * y)).length ≤ n + m := by
  refine dig_len_le (by omega) ?_
  rw [Nat.pow_add]
  rcases Nat.eq_zero_or_pos y with h | h
  · rw [h, Nat.mul_zero]
    exact Nat.mul_pos (Nat.pow_pos (by omega)) (Nat.pow_pos (by omega))
  · exact Nat.lt_of_lt_of_le ((Nat.mul_lt_mul_right h).2 hx) (Nat.mul_le_mul_left _ (by omega))
set_option maxHeartbeats 4000000 in
theorem times_any (A A2 : Option Addr) (n n2 c c2 : Nat) (a b : List Nat) (hn : a.length = n) (hn2 : b.length = n2) (hm : n ≤ 1400) (hm2 : n2 ≤ 1400) (ha : ∀ x ∈ a, x < 2) (hb : ∀ x ∈ b, x < 2) (m : Nat) (hL : (dig 2 (val 2 a * val 2 b)).length = m) (w : World) (hR : Reads w w.heap.size 1 A n (ints .u8 a)) (hR2 : Reads w w.heap.size 1 A2 n2 (ints .u8 b)) :
    Calls Try.prog 39 #[.slice A n c, .slice A2 n2 c2] w (BPost w m (val 2 a * val 2 b)) := by
  have pb := pre_all 2 b n2 (by omega)
  have lva := val_lt ha
  rw [hn] at lva
  have hlen : ∀ k, k ≤ n2 → (dig 2 (val 2 a * pre 2 b k)).length ≤ 2800 := fun k hk => Nat.le_trans (prod_len lva (pre_lt (B := 2) (by omega) hb k)) (by omega)
  have hp2 := fun (k : Nat) (hk : k ≤ n2) (w' : World) (hw : Below w.heap.size w w') => times2_any A n c k a hn (by omega) (by omega) _ rfl w' ((hR.below hw).more hw.size)
  have gn := Lib.hid hn
  have gn2 := Lib.hid hn2
  have gl := Lib.hid hlen
  have gL := Lib.hid hL
  clear hn hn2 hlen hL lva
  go_enter Try.func39, Try.ntmps39
  go_wp2
  go_loopw [5, 6] (fun o i wr => ∃ (k m : Nat) (Ao : Option Addr) (co : Nat), k ≤ n2 ∧ i = .int .i64 (k : Int) ∧ o = .slice Ao m co ∧ m ≤ co ∧ Hid ((dig 2 (val 2 a * pre 2 b k)).length = m) ∧ Reads wr wr.heap.size 1 Ao m (ints .u8 (dig 2 (val 2 a * pre 2 b k))) ∧ Below w.heap.size w wr) (fun _ i _ => n2 - (intOf i).toNat)
  case atStart => exact ⟨0, 0, none, 0, Nat.zero_le _, rfl, rfl, Nat.le_refl _, Lib.hid (by rw [pre_zero, Nat.mul_zero, dig_zero]; rfl), by rw [pre_zero, Nat.mul_zero, dig_zero]; exact Reads.none_, Below.refl _ _⟩
  case round =>
    obtain ⟨k, m1, Ao, co, hk, rfl, rfl, hco, hm1, hr, hB⟩ := hrel
    have hz := hB.size
    by_cases hlt : k < n2
    · obtain ⟨ad, rfl, hab, cA⟩ := at_ints gn2.out (hR2.below hB) hlt
      have xb := getD_lt (B := 2) (by omega) hb k
      have vb := pre_succ 2 b k
      obtain ⟨y, hy⟩ : ∃ y, b.getD k 0 = y := ⟨_, rfl⟩
      rw [hy] at cA xb vb
      have i1 : (0 : Int) ≤ k := by omega
      have i2 : (k : Int) < n2 := by omega
      rcases (show y = 0 ∨ y = 1 by omega) with rfl | rfl
      · have e : pre 2 b (k + 1) = pre 2 b k := by rw [vb, Nat.mul_zero, Nat.add_zero]
        rw [← e] at hm1 hr
        clear vb hy e hR hR2 hp2 gl gL pb ha hb
        go_wp2
        go_roundw
        case rel => exact ⟨k + 1, m1, Ao, co, by omega, by go_num, rfl, hco, hm1, hr, hB⟩
        case measure => simp [intOf] <;> omega
      · have e : pre 2 b (k + 1) = pre 2 b k + 2 ^ k := by rw [vb, Nat.mul_one]
        have hm1l : m1 ≤ 2800 := by rw [← hm1.out]; exact gl.out k hk
        obtain ⟨mt, hmt⟩ : ∃ mt, (t2 a k).length = mt := ⟨_, rfl⟩
        have hmtl : mt ≤ 2800 := by rw [← hmt]; have := t2_len a k; rw [gn.out] at this; omega
        have h2 := hp2 k hk wr hB
        rw [hmt] at h2
        have gmt := Lib.hid hmt
        have hv2 : val 2 (dig 2 (val 2 a * pre 2 b k)) + val 2 (t2 a k) = val 2 a * pre 2 b (k + 1) := by rw [val_dig (by omega), t2_val, e, Nat.mul_add]
        have gv := Lib.hid hv2
        obtain ⟨m3, hm3⟩ : ∃ m3, (dig 2 (val 2 a * pre 2 b (k + 1))).length = m3 := ⟨_, rfl⟩
        have gm3 := Lib.hid hm3
        have hpl := fun (Y : Option Addr) (d : Nat) (w' : World) (r1 : Reads w' w'.heap.size 1 Ao m1 (ints .u8 (dig 2 (val 2 a * pre 2 b k)))) (r2 : Reads w' w'.heap.size 1 Y mt (ints .u8 (t2 a k))) => plus_any Ao Y m1 mt co d (dig 2 (val 2 a * pre 2 b k)) (t2 a k) hm1.out gmt.out (by omega) (by omega) (dig_lt (by omega) _) (t2_lt ha k) m3 (by rw [gv.out]; exact gm3.out) w' r1 r2
        simp only [gv.out] at hpl
        have gp := Lib.hid hpl
        clear vb hy e hR hR2 hp2 gl gL pb hmt hv2 hm3 hpl ha hb
        go_wp2_with fail
        refine h2.mono ?_
        rintro en w1 ⟨Y, d, rfl, hd, hry, hb1⟩
        go_wp2_with fail
        refine (gp.out Y d w1 ((hr.below hb1).more hb1.size) hry).mono ?_
        rintro en w2 ⟨Y2, d2, rfl, hd2, hry2, hb2⟩
        have hB2 := hB.trans (hb1.mono hz)
        have hB3 := hB2.trans (hb2.mono hB2.size)
        clear h2 hry hb1 hb2 hr hB hB2 gp gv gmt
        go_wp2
        go_roundw
        case rel => exact ⟨k + 1, m3, Y2, d2, by omega, by go_num, rfl, hd2, gm3, hry2, hB3⟩
        case measure => simp [intOf] <;> omega
    · obtain rfl : k = n2 := by omega
      rw [pb] at hm1 hr
      have hmm : m1 = m := by rw [← hm1.out, gL.out]
      subst hmm
      clear hR hR2 hp2 gl gL pb ha hb
      go_wp2
      go_ret
      exact ⟨Ao, co, rfl, hco, hr, hB⟩
end Go.Proofs.Ytaklmkjldmbleaa
