/- Ether: the iterator over a mask's bits. -/
import Derived.Test.YtbiodoeimbfbnaaDoorBits
import Derived.Test.YtbiodoeimbfbnaaDoorLaw
import Derived.RangeFuncNested
import Derived.RangeFuncBound
import Derived.RangeFuncCalls
import Derived.RangeFuncLeaves
import Derived.RangeFuncBox
import Derived.Shelf.Abstract
import Derived.Shelf.RegionOpen
import Derived.WalkKit
import Derived.OwnWalkIn
import Derived.TacticsInMore
import Derived.LoopNIn
import Derived.LoopIn

namespace Go.Proofs.YtbiodoeimbfbnaaDoor
open Go.RowKit Go.Shelf Go.ChangeShapes Go.WideShapes Go.ChangeAt
set_option linter.unusedSimpArgs false
set_option linter.unusedVariables false
attribute [local go_sem] Oper.semAt_some
def Kp (n K : Nat) (W W' : World) : Prop := Below n W W' ∧ (∀ b t cs, b ≠ K → Blk W b t cs → Blk W' b t cs) ∧ W.heap.size ≤ W'.heap.size
def boxN (w : World) (b : Nat) : Nat := match w.cell? ⟨b, 0, none⟩ with
  | some (.int _ x) => x.toNat
  | _ => 0
abbrev Bit (m : Nat) := { k : Nat // m.testBit k = true }
theorem bits_mem {m k : Nat} (h : k ∈ bitsOf m) : m.testBit k = true := by
  unfold bitsOf at h
  exact (List.mem_filter.1 h).2
set_option maxRecDepth 100000 in
set_option maxHeartbeats 4000000 in
theorem ones1_in (n : Nat) (hn : 1 ≤ n) (l Kb n₀ K mask : Nat) (hm32 : mask < 4294967296) (hKK : Kb ≠ K) (J : List (Bit mask) → World → Prop) (W : World) (hn0 : 0 < n₀) (hn1 : n₀ ≤ Kb)
    (hJb : ∀ s A v, J s A → J s (A.setCell ⟨Kb, 0, none⟩ v)) (hT : Tab W)
    (hY : ∀ pre x W1, J pre W1 → YieldAt Fence.wide (n - 1) Tryd.prog l #[.int .i64 ((x : Bit mask).1 : Int)] W1 fun e W' => e = .returned (.bool true) ∧ J (pre ++ [x]) W' ∧ Kp n₀ K W1 W')
    (hBx : Blk W Kb 23 #[.int .u32 (mask : Int)]) (h0 : J [] W) :
    CallsIn Fence.wide n Tryd.prog 35 #[.func (.yield l) #[] #[], .pointer (some ⟨Kb, 0, none⟩)] W fun e W' => (∃ v, e = .returned v) ∧ ∃ ys, ys.map Subtype.val = bitsOf mask ∧ J ys W' := by
  refine callsIn_of_wp Tryd.func35 rfl trivial ?_ rfl
  simp only [Tryd.ntmps35, List.size_toArray, List.length_cons, List.length_nil, Nat.reduceAdd, Nat.reduceSub, Array.replicate_succ, Array.replicate_zero, List.push_toArray, List.append_toArray, List.nil_append, List.cons_append]
  gi_wp2
  gi_loopw [13] (fun _ wr => ∃ (m : Nat) (pre : List (Bit mask)), m ≤ mask ∧ Blk wr Kb 23 #[.int .u32 (m : Int)] ∧ J pre wr ∧ Hid (bitsOf mask = pre.map Subtype.val ++ bitsOf m) ∧ Tab wr) (fun _ wr => boxN wr Kb)
  case atStart => exact ⟨mask, [], Nat.le_refl _, hBx, h0, Lib.hid rfl, hT⟩
  case round =>
    clear hBx h0 hT
    obtain ⟨m, pre, hmm, hBx, hJ, hbits, hT⟩ := hrel
    have hm : m < 4294967296 := by omega
    have c0 : wr.cell? ⟨Kb, 0, none⟩ = some (.int .u32 (m : Int)) := hBx.cell 0
    by_cases h0 : m = 0
    · have n0 : ((m : Int) != 0) = false := by rw [h0]; rfl
      have n1 : (m != 0) = false := by rw [h0]; rfl
      have hfin : pre.map Subtype.val = bitsOf mask := by have := hbits.out; rw [h0, bits_zero, List.append_nil] at this; exact this.symm
      have gfin := Lib.hid hfin
      clear hfin hbits hY hJb h0
      gi_wp2
      go_end0
      exact ⟨⟨_, rfl⟩, pre, gfin.out, hJ⟩
    · obtain ⟨hst, ht32, htb, hlt⟩ := bits_step hm h0
      have hmem : Lib.ctz 32 m ∈ bitsOf mask := by rw [hbits.out, hst]; simp
      have htm := bits_mem hmem
      have htz := tz_any m hm h0 wr hT
      have n0 : ((m : Int) != 0) = true := bne_iff_ne.2 (by omega)
      obtain ⟨t, htt⟩ : ∃ t, Lib.ctz 32 m = t := ⟨_, rfl⟩
      rw [htt] at hst ht32 htm htz
      obtain ⟨m2, hm2⟩ : ∃ m2, m &&& (m - 1) = m2 := ⟨_, rfl⟩
      rw [hm2] at hst hlt
      have hand : bits .and .u32 (m : Int) ((m : Int) - 1) = (m2 : Int) := by
        rw [show (m : Int) - 1 = ((m - 1 : Nat) : Int) by omega, u32_and_nat m (m - 1) hm (by omega), hm2]
      have hbits2 : Hid (bitsOf mask = (pre ++ ([⟨t, htm⟩] : List (Bit mask))).map Subtype.val ++ bitsOf m2) := Lib.hid (by rw [hbits.out, hst]; simp)
      obtain ⟨fn, tmps, assign, body, hy, hR⟩ := hY pre ⟨t, htm⟩ wr hJ
      have hsub : IntKind.u32.wrap ((m : Int) - 1) = (m : Int) - 1 := IntWalk.u32_in _ (by omega)
      have hone : (1 : Int) ≤ m := by omega
      clear hbits hst htb htt hm2 hY hmem
      gi_wp2_with (refine ⟨trivial, ?_⟩; gi_at_call 36; refine (callsIn_wide.2 htz).mono ?_; rintro e W' ⟨rfl, rfl⟩)
      refine hR.mono ?_
      rintro e W3 ⟨rfl, hJ3, hk3⟩
      have B3 := hk3.2.1 _ _ _ hKK hBx
      have d0 : W3.cell? ⟨Kb, 0, none⟩ = some (.int .u32 (m : Int)) := B3.cell 0
      have df := B3.frozen 0
      have T3 := hT.below hk3.1 hn0
      have J4 := hJb _ _ (.int .u32 (m2 : Int)) hJ3
      have B4 := B3.set_ 0 (.int .u32 (m2 : Int))
      have T4 : Tab (W3.setCell ⟨Kb, 0, none⟩ (.int .u32 (m2 : Int))) := T3.below ((Below.refl n₀ W3).setCell (p := ⟨Kb, 0, none⟩) hn1 _) hn0
      have M1 : boxN wr Kb = m := by unfold boxN; rw [c0]; simp
      have M2 : boxN (W3.setCell ⟨Kb, 0, none⟩ (.int .u32 (m2 : Int))) Kb = m2 := by
        unfold boxN
        rw [show (W3.setCell ⟨Kb, 0, none⟩ (.int .u32 (m2 : Int))).cell? ⟨Kb, 0, none⟩ = some (.int .u32 (m2 : Int)) from B4.cell 0]
        simp
      have gM1 := Lib.hid M1
      have gM2 := Lib.hid M2
      clear M1 M2 c0 hBx hT hJ hk3 htz hJ3 hJb
      gi_wp2
      go_roundw
      case rel => exact ⟨m2, pre ++ [⟨t, htm⟩], by omega, by first | exact B4 | (rw [hand]; exact B4), by first | exact J4 | (rw [hand]; exact J4), hbits2, by first | exact T4 | (rw [hand]; exact T4)⟩
      case measure => first | (rw [gM1.out, gM2.out]; omega) | (rw [hand, gM1.out, gM2.out]; omega)
theorem ones_any (m : Nat) (w : World) : Calls Tryd.prog 24 #[.int .u32 (m : Int)] w fun en w' => en = .returned (.func (.func 35) #[] #[.pointer (some ⟨w.heap.size, 0, none⟩)]) ∧ w' = w.alloc (.cells #[.int .u32 (m : Int)] 23) := by
  go_enter Tryd.func24, Tryd.ntmps24
  go_wp2
  go_ret
  exact ⟨rfl, rfl⟩
end Go.Proofs.YtbiodoeimbfbnaaDoor
