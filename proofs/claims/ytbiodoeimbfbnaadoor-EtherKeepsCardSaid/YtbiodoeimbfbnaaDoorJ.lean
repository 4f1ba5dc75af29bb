/- Ether: the program's Spoil, where it refuses. -/
import Derived.Test.YtbiodoeimbfbnaaDoorI
import Derived.Test.YtbiodoeimbfbnaaDoorE
import Derived.Test.YtbiodoeimbfbnaaDoorSh
import Derived.Deep.QuietTactic
import Derived.BigQuiet
namespace Go.Proofs.YtbiodoeimbfbnaaDoor
open Go.ChangeShapes Go.WideShapes Go.ChangeAt Go.RowKit
set_option linter.unusedSimpArgs false
set_option linter.unusedVariables false
/-- Copies that are answered in memory of the call's own, and an error. -/
def SpOwn (w : World) (R : List Cp × Int) (en : Ending) (w' : World) : Prop := ∃ Ao co, en = .returned (.tuple #[.slice Ao R.1.length co, .int .i64 R.2]) ∧ R.1.length ≤ co ∧ Cps w' w'.heap.size Ao R.1.length R.1 ∧ Wr w' (fun g => w.heap.size ≤ g ∧ g < w'.heap.size) 37 4 Ao R.1.length (R.1.map fds) ∧ Below w.heap.size w w'
theorem spo_nil {w w' : World} (hb : Below w.heap.size w w') (E : Int) : SpOwn w ([], E) (.returned (.tuple #[.slice none 0 0, .int .i64 E])) w' := ⟨none, 0, rfl, Nat.le_refl _, Recs.none_, Wr.none_, hb⟩
theorem len_any (m : Nat) (hm : m < 4294967296) (w : World) : Calls Tryd.prog 22 #[.int .u32 (m : Int)] w fun e w' => e = .returned (.int .i64 ((Lib.bitLen m : Nat) : Int)) ∧ w' = w :=
  (sh_bits_Len32 (m : Int) w (by omega) (by omega)).mono fun _ _ h => by rw [Int.toNat_natCast] at h; exact h
set_option maxHeartbeats 4000000 in
theorem spoil_err (A : Option Addr) (n c : Nat) (l : List Cp) (m : Nat) (hm : n ≤ 1000) (hm32 : m < 4294967296) (w : World) (h1 : Cps w w.heap.size A n l) (i a : Int) (E : Int) (hE : chkE l = E) (hE0 : E ≠ 0) :
    Calls Tryd.prog 9 #[.slice A n c, .int .i64 i, .int .i64 a, .int .u32 (m : Int)] w (SpOwn w ([], E)) := by
  have hB1 := ((Below.refl w.heap.size w).alloc (Nat.le_refl _) (.cells #[.int .i64 i] 3)).alloc (by simp) (.cells #[.int .i64 a] 3)
  have k5 := (Blk.new w 3 #[.int .i64 i]).alloc (.cells #[.int .i64 a] 3)
  have k6 := Blk.new (w.alloc (.cells #[.int .i64 i] 3)) 3 #[.int .i64 a]
  rw [World.size_alloc] at k6
  have h2 := (h1.below hB1).more hB1.size
  have hat := at_err A n c l i (by omega) E hE hE0 _ h2
  have t1 : (E != 0) = true := bne_iff_ne.2 hE0
  clear hE hE0 h1 h2
  go_enter Tryd.func9, Tryd.ntmps9
  go_wp2_with fail
  refine hat.mono ?_
  rintro en w1 ⟨rfl, hb2⟩
  have k5' := k5.below hb2 k5.lt
  have k6' := k6.below hb2 k6.lt
  have hb := hB1.trans (hb2.mono hB1.size)
  have c5 := k5'.cell 0
  have c6 := k6'.cell 0
  simp at c5 c6
  have s5 := k5'.lt
  have s6 := k6'.lt
  have n5 := World.new_ne w1 _ c5
  have n6 := World.new_ne w1 _ c6
  clear hat hb2 k5 k6 k5' k6' hB1
  go_wp2
  go_ret2
  exact spo_nil (hb.alloc (by have := hb.size; omega) _) E
set_option maxHeartbeats 4000000 in
theorem spoil_out (A : Option Addr) (n c : Nat) (l : List Cp) (m : Nat) (hm : n ≤ 1000) (hm32 : m < 4294967296) (w : World) (h1 : Cps w w.heap.size A n l) (i a : Int) (hE : chkE l = 0) (hi : i < 0 ∨ (n : Int) ≤ i) :
    Calls Tryd.prog 9 #[.slice A n c, .int .i64 i, .int .i64 a, .int .u32 (m : Int)] w (SpOwn w ([], 2)) := by
  have hB1 := ((Below.refl w.heap.size w).alloc (Nat.le_refl _) (.cells #[.int .i64 i] 3)).alloc (by simp) (.cells #[.int .i64 a] 3)
  have k5 := (Blk.new w 3 #[.int .i64 i]).alloc (.cells #[.int .i64 a] 3)
  have k6 := Blk.new (w.alloc (.cells #[.int .i64 i] 3)) 3 #[.int .i64 a]
  rw [World.size_alloc] at k6
  have h2 := (h1.below hB1).more hB1.size
  have hat := at_arg A n c l i (by omega) hE hi _ h2
  clear hE hi h1 h2
  go_enter Tryd.func9, Tryd.ntmps9
  go_wp2_with fail
  refine hat.mono ?_
  rintro en w1 ⟨rfl, hb2⟩
  have k5' := k5.below hb2 k5.lt
  have k6' := k6.below hb2 k6.lt
  have hb := hB1.trans (hb2.mono hB1.size)
  have c5 := k5'.cell 0
  have c6 := k6'.cell 0
  simp at c5 c6
  have s5 := k5'.lt
  have s6 := k6'.lt
  have n5 := World.new_ne w1 _ c5
  have n6 := World.new_ne w1 _ c6
  clear hat hb2 k5 k6 k5' k6' hB1
  go_wp2
  go_ret2
  exact spo_nil (hb.alloc (by have := hb.size; omega) _) 2
set_option maxHeartbeats 4000000 in
theorem spoil_zero (A : Option Addr) (n c : Nat) (l : List Cp) (m : Nat) (hm : n ≤ 1000) (hm32 : m < 4294967296) (w : World) (h1 : Cps w w.heap.size A n l) (k : Nat) (a : Int) (hk : k < n) (hE : chkE l = 0) (h0 : m = 0) :
    Calls Tryd.prog 9 #[.slice A n c, .int .i64 (k : Int), .int .i64 a, .int .u32 (m : Int)] w (SpOwn w ([], 2)) := by
  have hB1 := ((Below.refl w.heap.size w).alloc (Nat.le_refl _) (.cells #[.int .i64 (k : Int)] 3)).alloc (by simp) (.cells #[.int .i64 a] 3)
  have k5 := (Blk.new w 3 #[.int .i64 (k : Int)]).alloc (.cells #[.int .i64 a] 3)
  have k6 := Blk.new (w.alloc (.cells #[.int .i64 (k : Int)] 3)) 3 #[.int .i64 a]
  rw [World.size_alloc] at k6
  have h2 := (h1.below hB1).more hB1.size
  obtain ⟨num, dn, txt, sp, X, q, d, hl1, hx1, hxd1, rX, hat⟩ := at_ok A n c l k (by omega) hE hk _ h2
  have hq : q ≤ 4105 := by have := chk_txt hE (List.mem_of_getElem? hl1); simp only at this; omega
  have t1 : ((m : Int) == 0) = true := by rw [h0]; rfl
  have t1' : (m == 0) = true := by rw [h0]; rfl
  clear h0
  clear hE hk h1 h2 rX hx1 hl1
  go_enter Tryd.func9, Tryd.ntmps9
  go_wp2_with fail
  refine hat.mono ?_
  rintro en w1 ⟨rfl, hb2⟩
  have k5' := k5.below hb2 k5.lt
  have k6' := k6.below hb2 k6.lt
  have hb := hB1.trans (hb2.mono hB1.size)
  have c5 := k5'.cell 0
  have c6 := k6'.cell 0
  simp at c5 c6
  have s5 := k5'.lt
  have s6 := k6'.lt
  have n5 := World.new_ne w1 _ c5
  have n6 := World.new_ne w1 _ c6
  clear hat hb2 k5 k6 k5' k6' hB1
  go_wp2_with fail
  go_quiet (fail)
  go_wp2
  go_ret2
  exact spo_nil (below_drewN (hb.alloc (by have := hb.size; omega) _) nq) 2
set_option maxHeartbeats 4000000 in
theorem spoil_neg (A : Option Addr) (n c : Nat) (l : List Cp) (m : Nat) (hm : n ≤ 1000) (hm32 : m < 4294967296) (w : World) (h1 : Cps w w.heap.size A n l) (k : Nat) (a : Int) (hk : k < n) (hE : chkE l = 0) (h0 : m ≠ 0) (ha : a < 0) :
    Calls Tryd.prog 9 #[.slice A n c, .int .i64 (k : Int), .int .i64 a, .int .u32 (m : Int)] w (SpOwn w ([], 2)) := by
  have hB1 := ((Below.refl w.heap.size w).alloc (Nat.le_refl _) (.cells #[.int .i64 (k : Int)] 3)).alloc (by simp) (.cells #[.int .i64 a] 3)
  have k5 := (Blk.new w 3 #[.int .i64 (k : Int)]).alloc (.cells #[.int .i64 a] 3)
  have k6 := Blk.new (w.alloc (.cells #[.int .i64 (k : Int)] 3)) 3 #[.int .i64 a]
  rw [World.size_alloc] at k6
  have h2 := (h1.below hB1).more hB1.size
  obtain ⟨num, dn, txt, sp, X, q, d, hl1, hx1, hxd1, rX, hat⟩ := at_ok A n c l k (by omega) hE hk _ h2
  have hq : q ≤ 4105 := by have := chk_txt hE (List.mem_of_getElem? hl1); simp only at this; omega
  have t1 : ((m : Int) == 0) = false := beq_eq_false_iff_ne.2 (by omega)
  have t1' : (m == 0) = false := beq_eq_false_iff_ne.2 h0
  have t2 : decide (a < 0) = true := decide_eq_true ha
  clear h0 ha
  clear hE hk h1 h2 rX hx1 hl1
  go_enter Tryd.func9, Tryd.ntmps9
  go_wp2_with fail
  refine hat.mono ?_
  rintro en w1 ⟨rfl, hb2⟩
  have k5' := k5.below hb2 k5.lt
  have k6' := k6.below hb2 k6.lt
  have hb := hB1.trans (hb2.mono hB1.size)
  have c5 := k5'.cell 0
  have c6 := k6'.cell 0
  simp at c5 c6
  have s5 := k5'.lt
  have s6 := k6'.lt
  have n5 := World.new_ne w1 _ c5
  have n6 := World.new_ne w1 _ c6
  clear hat hb2 k5 k6 k5' k6' hB1
  go_wp2_with fail
  go_quiet (fail)
  go_wp2
  go_ret2
  exact spo_nil (below_drewN (hb.alloc (by have := hb.size; omega) _) nq) 2
set_option maxHeartbeats 4000000 in
theorem spoil_far (A : Option Addr) (n c : Nat) (l : List Cp) (m : Nat) (hm : n ≤ 1000) (hm32 : m < 4294967296) (w : World) (h1 : Cps w w.heap.size A n l) (k : Nat) (a : Int) (hk : k < n) (hE : chkE l = 0) (h0 : m ≠ 0) (ha : 0 ≤ a) (hfit : ∀ x, l[k]? = some x → 8 * (x.txt.length : Int) - Lib.bitLen m < a) :
    Calls Tryd.prog 9 #[.slice A n c, .int .i64 (k : Int), .int .i64 a, .int .u32 (m : Int)] w (SpOwn w ([], 2)) := by
  have hB1 := ((Below.refl w.heap.size w).alloc (Nat.le_refl _) (.cells #[.int .i64 (k : Int)] 3)).alloc (by simp) (.cells #[.int .i64 a] 3)
  have k5 := (Blk.new w 3 #[.int .i64 (k : Int)]).alloc (.cells #[.int .i64 a] 3)
  have k6 := Blk.new (w.alloc (.cells #[.int .i64 (k : Int)] 3)) 3 #[.int .i64 a]
  rw [World.size_alloc] at k6
  have h2 := (h1.below hB1).more hB1.size
  obtain ⟨num, dn, txt, sp, X, q, d, hl1, hx1, hxd1, rX, hat⟩ := at_ok A n c l k (by omega) hE hk _ h2
  have hq : q ≤ 4105 := by have := chk_txt hE (List.mem_of_getElem? hl1); simp only at this; omega
  have t1 : ((m : Int) == 0) = false := beq_eq_false_iff_ne.2 (by omega)
  have t1' : (m == 0) = false := beq_eq_false_iff_ne.2 h0
  have t2 : decide (a < 0) = false := decide_eq_false (by omega)
  have hlb := (len_bits hm32 h0).2.1
  obtain ⟨L, hL⟩ : ∃ L, Lib.bitLen m = L := ⟨_, rfl⟩
  have hln := fun w' => len_any m hm32 w'
  rw [hL] at hln hlb
  have e1 : IntKind.i64.wrap (8 * (q : Int)) = 8 * (q : Int) := IntWalk.i64_in _ (by omega)
  have e2 : IntKind.i64.wrap (8 * (q : Int) - L) = 8 * (q : Int) - L := IntWalk.i64_in _ (by omega)
  have hf := hfit _ hl1
  simp only [hx1, hL] at hf
  have t3 : decide (8 * (q : Int) - L < a) = true := decide_eq_true hf
  clear h0 ha hfit hL hf
  clear hE hk h1 h2 rX hx1 hl1
  go_enter Tryd.func9, Tryd.ntmps9
  go_wp2_with fail
  refine hat.mono ?_
  rintro en w1 ⟨rfl, hb2⟩
  have k5' := k5.below hb2 k5.lt
  have k6' := k6.below hb2 k6.lt
  have hb := hB1.trans (hb2.mono hB1.size)
  have c5 := k5'.cell 0
  have c6 := k6'.cell 0
  simp at c5 c6
  have s5 := k5'.lt
  have s6 := k6'.lt
  have n5 := World.new_ne w1 _ c5
  have n6 := World.new_ne w1 _ c6
  clear hat hb2 k5 k6 k5' k6' hB1
  go_wp2_with fail
  go_quiet ((go_at_call 22; exact Calls.quiet_of_same (hln _)))
  go_wp2
  go_ret2
  exact spo_nil (below_drewN (hb.alloc (by have := hb.size; omega) _) nq) 2
set_option maxHeartbeats 4000000 in
theorem spoil_again (A : Option Addr) (n c : Nat) (l : List Cp) (m : Nat) (hm : n ≤ 1000) (hm32 : m < 4294967296) (w : World) (h1 : Cps w w.heap.size A n l) (k : Nat) (a : Int) (hk : k < n) (hE : chkE l = 0) (h0 : m ≠ 0) (ha : 0 ≤ a) (hfit : ∀ x, l[k]? = some x → x.sp = true ∧ a ≤ 8 * (x.txt.length : Int) - Lib.bitLen m) :
    Calls Tryd.prog 9 #[.slice A n c, .int .i64 (k : Int), .int .i64 a, .int .u32 (m : Int)] w (SpOwn w ([], 12)) := by
  have hB1 := ((Below.refl w.heap.size w).alloc (Nat.le_refl _) (.cells #[.int .i64 (k : Int)] 3)).alloc (by simp) (.cells #[.int .i64 a] 3)
  have k5 := (Blk.new w 3 #[.int .i64 (k : Int)]).alloc (.cells #[.int .i64 a] 3)
  have k6 := Blk.new (w.alloc (.cells #[.int .i64 (k : Int)] 3)) 3 #[.int .i64 a]
  rw [World.size_alloc] at k6
  have h2 := (h1.below hB1).more hB1.size
  obtain ⟨num, dn, txt, sp, X, q, d, hl1, hx1, hxd1, rX, hat⟩ := at_ok A n c l k (by omega) hE hk _ h2
  have hq : q ≤ 4105 := by have := chk_txt hE (List.mem_of_getElem? hl1); simp only at this; omega
  have t1 : ((m : Int) == 0) = false := beq_eq_false_iff_ne.2 (by omega)
  have t1' : (m == 0) = false := beq_eq_false_iff_ne.2 h0
  have t2 : decide (a < 0) = false := decide_eq_false (by omega)
  have hlb := (len_bits hm32 h0).2.1
  obtain ⟨L, hL⟩ : ∃ L, Lib.bitLen m = L := ⟨_, rfl⟩
  have hln := fun w' => len_any m hm32 w'
  rw [hL] at hln hlb
  have e1 : IntKind.i64.wrap (8 * (q : Int)) = 8 * (q : Int) := IntWalk.i64_in _ (by omega)
  have e2 : IntKind.i64.wrap (8 * (q : Int) - L) = 8 * (q : Int) - L := IntWalk.i64_in _ (by omega)
  have hf := hfit _ hl1
  simp only [hx1, hL] at hf
  obtain ⟨rfl, hf⟩ := hf
  have t3 : decide (8 * (q : Int) - L < a) = false := decide_eq_false (by omega)
  clear h0 ha hfit hL hf hE hk h1 h2 rX hx1 hl1
  go_enter Tryd.func9, Tryd.ntmps9
  go_wp2_with fail
  refine hat.mono ?_
  rintro en w1 ⟨rfl, hb2⟩
  have k5' := k5.below hb2 k5.lt
  have k6' := k6.below hb2 k6.lt
  have hb := hB1.trans (hb2.mono hB1.size)
  have c5 := k5'.cell 0
  have c6 := k6'.cell 0
  simp at c5 c6
  have s5 := k5'.lt
  have s6 := k6'.lt
  have n5 := World.new_ne w1 _ c5
  have n6 := World.new_ne w1 _ c6
  clear hat hb2 k5 k6 k5' k6' hB1
  go_wp2_with fail
  go_quiet ((go_at_call 22; exact Calls.quiet_of_same (hln _)))
  go_wp2
  go_ret2
  exact spo_nil (below_drewN (hb.alloc (by have := hb.size; omega) _) nq) 12
end Go.Proofs.YtbiodoeimbfbnaaDoor
