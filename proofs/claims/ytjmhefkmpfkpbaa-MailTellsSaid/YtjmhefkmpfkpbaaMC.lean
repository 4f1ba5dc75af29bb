/- Mass: the iterator over the parts of masses -/
import Derived.Test.YtjmhefkmpfkpbaaMB
import Derived.Test.YtjmhefkmpfkpbaaKA
import Derived.RangeFuncNested
import Derived.RangeFuncBound
import Derived.RangeFuncCalls
import Derived.RangeFuncLeaves
import Derived.RangeFuncBox
import Derived.Shelf.Abstract
import Derived.Shelf.RegionOpen
import Derived.WalkKit
import Derived.OwnWalkIn
import Derived.TacticsInMore
import Derived.LoopNIn
import Derived.LoopIn
namespace Go.Proofs.Ytjmhefkmpfkpbaa
open Go.Shelf Go.ChangeShapes Go.WideShapes Go.ChangeAt Go.RowKit
set_option linter.unusedSimpArgs false
set_option linter.unusedVariables false
/-- The iterator's own boxes stay. -/
def KpM (g1 g2 : Nat) (W W' : World) : Prop := W'.cell? ⟨g1, 0, none⟩ = W.cell? ⟨g1, 0, none⟩ ∧ W'.cell? ⟨g2, 0, none⟩ = W.cell? ⟨g2, 0, none⟩
theorem kpM_t {g1 g2 : Nat} {A B C : World} (h : KpM g1 g2 A B) (k : KpM g1 g2 B C) : KpM g1 g2 A C := ⟨k.1.trans h.1, k.2.trans h.2⟩
abbrev P4 := {k : Nat // k < 4}
abbrev p0 : P4 := ⟨0, by omega⟩
abbrev p1 : P4 := ⟨1, by omega⟩
abbrev p2 : P4 := ⟨2, by omega⟩
abbrev p3 : P4 := ⟨3, by omega⟩
abbrev encM (ga gb : Nat) (k : P4) : Array Value := #[.pointer (some ⟨ga, 3 * k.1, none⟩), .pointer (some ⟨gb, 3 * k.1, none⟩)]
section
variable {F : Fence} {n : Nat} {P : Program} {ops : Array Oper} {Q : Exit → Act → World → Prop} {md : Region.Mode}
theorem wpIn_region_np {id : Nat} {a : Act} {w : World} (hm : P.follows .mixedOrders = true) (h : wpAnyIn F n P .any ops (NoPan Q) ops.size (Array.replicate ops.size false) a { w with drawn := w.drawn + 1 }) : (Code.region id ops true).wpIn F n P Q a w :=
  wpIn_mono (wpIn_region_any hm h) NoPan.imp
end
theorem in_pos {c : Bool} {A B : Prop} (h : c = true) (hA : A) : if c = true then A else B := by rw [if_pos h]; exact hA
attribute [local go_sem] Oper.semAt_some
set_option maxRecDepth 100000 in
set_option maxHeartbeats 8000000 in
theorem parts_in (n l g1 g2 ga gb : Nat) (hn : 1 ≤ n) (J Jx : List P4 → World → Prop) (W : World) 
    (hY : ∀ pre x W1, J pre W1 → pre.length < 4 → YieldAt Fence.wide (n - 1) Try.prog l (encM ga gb x) W1 fun e W' => (e = .returned (.bool true) ∧ J (pre ++ [x]) W' ∧ KpM g1 g2 W1 W') ∨ (e = .returned (.bool false) ∧ Jx (pre ++ [x]) W'))
    (hSc : W.cell? ⟨g1, 0, none⟩ = some (.pointer (some ⟨ga, 0, none⟩)) ∧ W.cell? ⟨g2, 0, none⟩ = some (.pointer (some ⟨gb, 0, none⟩))) (hJd : ∀ s A, J s A → J s { A with drawn := A.drawn + 1 }) (h0' : J [] W) :
    CallsIn Fence.wide n Try.prog 84 #[.func (.yield l) #[] #[], .pointer (some ⟨g1, 0, none⟩), .pointer (some ⟨g2, 0, none⟩)] W fun e W' => (∃ v, e = .returned v) ∧
      ((∃ ys, ys = [p0, p1, p2, p3] ∧ J ys W') ∨ (∃ pre, True ∧ Jx pre W')) := by
  refine callsIn_of_wp Try.func84 rfl trivial ?_ rfl
  simp only [Try.ntmps84, List.size_toArray, List.length_cons, List.length_nil, Nat.reduceAdd, Nat.reduceSub, Array.replicate_succ, Array.replicate_zero, List.push_toArray, List.append_toArray, List.nil_append, List.cons_append]
  gi_wp2_with fail
  refine wpIn_region_np (by kernel_rfl) ?_
  have h0 := hJd _ _ h0'
  obtain ⟨V, hV⟩ : ∃ V : World, V = { W with drawn := W.drawn + 1 } := ⟨_, rfl⟩
  rw [← hV] at h0 ⊢
  have hS1 : V.cell? ⟨g1, 0, none⟩ = some (.pointer (some ⟨ga, 0, none⟩)) := by rw [hV]; exact hSc.1
  have hS2 : V.cell? ⟨g2, 0, none⟩ = some (.pointer (some ⟨gb, 0, none⟩)) := by rw [hV]; exact hSc.2
  clear hV h0' hSc
  simp only [List.size_toArray, List.length_cons, List.length_nil, Nat.reduceAdd, Array.replicate_succ, Array.replicate_zero, List.push_toArray, List.append_toArray, List.nil_append, List.cons_append]
  refine inY 0 (h := ?_)
  (try simp only [Act.put, lsA, lsZ, lsS])
  refine (fun (key0 : (?T0 : Prop)) => ?AB0) ?G0
  case AB0 =>
    refine wpAnyIn_ready (rs := [1, 4]) (by kernel_rfl) (by simp) ?_
    refine AllReadyIn.cons (o := ?o2) ?ho2 (fun K hK => ?rest2) (AllReadyIn.cons (o := ?o3) ?ho3 (fun K hK => ?rest3) AllReadyIn.nil)
    case ho2 => (simp only [lgA, lgZ, lgS]; rfl)
    case ho3 => (simp only [lgA, lgZ, lgS]; rfl)
    refine in_pos rfl ?_
    go_simp
    refine hK _ _ ?_
    clear hK K
    (try simp only [Act.put, lsA, lsZ, lsS])
    refine inY 2 (h := ?_)
    (try simp only [Act.put, lsA, lsZ, lsS])
    refine inY 3 (h := ?_)
    (try simp only [Act.put, lsA, lsZ, lsS])
    refine wpAnyIn_ready (rs := [4]) (by kernel_rfl) (by simp) ?_
    refine AllReadyIn.cons (o := ?o6) ?ho6 (fun K hK => ?rest6) AllReadyIn.nil
    case ho6 => (simp only [lgA, lgZ, lgS]; rfl)
    refine in_pos rfl ?_
    go_simp
    refine hK _ _ ?_
    clear hK K
    (try simp only [Act.put, lsA, lsZ, lsS])
    refine inY 5 (h := ?_)
    (try simp only [Act.put, lsA, lsZ, lsS])
    refine inY 6 (h := ?_)
    (try simp only [Act.put, lsA, lsZ, lsS])
    exact key0
    refine in_pos rfl ?_
    go_simp
    refine hK _ _ ?_
    clear hK K
    (try simp only [Act.put, lsA, lsZ, lsS])
    refine inY 5 (h := ?_)
    (try simp only [Act.put, lsA, lsZ, lsS])
    refine inY 6 (h := ?_)
    (try simp only [Act.put, lsA, lsZ, lsS])
    refine wpAnyIn_ready (rs := [1]) (by kernel_rfl) (by simp) ?_
    refine AllReadyIn.cons (o := ?o11) ?ho11 (fun K hK => ?rest11) AllReadyIn.nil
    case ho11 => (simp only [lgA, lgZ, lgS]; rfl)
    refine in_pos rfl ?_
    go_simp
    refine hK _ _ ?_
    clear hK K
    (try simp only [Act.put, lsA, lsZ, lsS])
    refine inY 2 (h := ?_)
    (try simp only [Act.put, lsA, lsZ, lsS])
    refine inY 3 (h := ?_)
    (try simp only [Act.put, lsA, lsZ, lsS])
    exact key0
  obtain ⟨fn0, tmps0, assign0, body0, hy0, hR0⟩ := hY [] p0 _ h0 (by simp)
  simp only [encM, p0, Nat.reduceMul, Nat.mul_zero, Nat.mul_one] at hy0
  refine wpAnyIn_ready (rs := [7]) (by kernel_rfl) (by simp) ?_
  refine AllReadyIn.cons (o := ?o14) ?ho14 (fun K hK => ?rest14) AllReadyIn.nil
  case ho14 => (simp only [lgA, lgZ, lgS]; rfl)
  refine in_pos rfl ?_
  gi_wp2_with fail
  refine hR0.mono ?_
  rintro e W1 (⟨rfl, hJ1, hk1⟩ | ⟨rfl, hx⟩)
  · (try dsimp only)
    replace hS1 := hk1.1.trans hS1
    replace hS2 := hk1.2.trans hS2
    refine hK _ _ ?_
    clear hK K
    (try simp only [Act.put, lsA, lsZ, lsS])
    refine inY 8 (h := ?_)
    (try simp only [Act.put, lsA, lsZ, lsS])
    refine inY 9 (h := ?_)
    (try simp only [Act.put, lsA, lsZ, lsS])
    refine (fun (key1 : (?T1 : Prop)) => ?AB1) ?G1
    case AB1 =>
      refine wpAnyIn_ready (rs := [10, 13]) (by kernel_rfl) (by simp) ?_
      refine AllReadyIn.cons (o := ?o17) ?ho17 (fun K hK => ?rest17) (AllReadyIn.cons (o := ?o18) ?ho18 (fun K hK => ?rest18) AllReadyIn.nil)
      case ho17 => (simp only [lgA, lgZ, lgS]; rfl)
      case ho18 => (simp only [lgA, lgZ, lgS]; rfl)
      refine in_pos rfl ?_
      go_simp
      refine hK _ _ ?_
      clear hK K
      (try simp only [Act.put, lsA, lsZ, lsS])
      refine inY 11 (h := ?_)
      (try simp only [Act.put, lsA, lsZ, lsS])
      refine inY 12 (h := ?_)
      (try simp only [Act.put, lsA, lsZ, lsS])
      refine wpAnyIn_ready (rs := [13]) (by kernel_rfl) (by simp) ?_
      refine AllReadyIn.cons (o := ?o21) ?ho21 (fun K hK => ?rest21) AllReadyIn.nil
      case ho21 => (simp only [lgA, lgZ, lgS]; rfl)
      refine in_pos rfl ?_
      go_simp
      refine hK _ _ ?_
      clear hK K
      (try simp only [Act.put, lsA, lsZ, lsS])
      refine inY 14 (h := ?_)
      (try simp only [Act.put, lsA, lsZ, lsS])
      refine inY 15 (h := ?_)
      (try simp only [Act.put, lsA, lsZ, lsS])
      exact key1
      refine in_pos rfl ?_
      go_simp
      refine hK _ _ ?_
      clear hK K
      (try simp only [Act.put, lsA, lsZ, lsS])
      refine inY 14 (h := ?_)
      (try simp only [Act.put, lsA, lsZ, lsS])
      refine inY 15 (h := ?_)
      (try simp only [Act.put, lsA, lsZ, lsS])
      refine wpAnyIn_ready (rs := [10]) (by kernel_rfl) (by simp) ?_
      refine AllReadyIn.cons (o := ?o26) ?ho26 (fun K hK => ?rest26) AllReadyIn.nil
      case ho26 => (simp only [lgA, lgZ, lgS]; rfl)
      refine in_pos rfl ?_
      go_simp
      refine hK _ _ ?_
      clear hK K
      (try simp only [Act.put, lsA, lsZ, lsS])
      refine inY 11 (h := ?_)
      (try simp only [Act.put, lsA, lsZ, lsS])
      refine inY 12 (h := ?_)
      (try simp only [Act.put, lsA, lsZ, lsS])
      exact key1
    obtain ⟨fn1, tmps1, assign1, body1, hy1, hR1⟩ := hY [p0] p1 _ hJ1 (by simp)
    simp only [encM, p1, Nat.reduceMul, Nat.mul_zero, Nat.mul_one] at hy1
    refine wpAnyIn_ready (rs := [16]) (by kernel_rfl) (by simp) ?_
    refine AllReadyIn.cons (o := ?o29) ?ho29 (fun K hK => ?rest29) AllReadyIn.nil
    case ho29 => (simp only [lgA, lgZ, lgS]; rfl)
    refine in_pos rfl ?_
    gi_wp2_with fail
    refine hR1.mono ?_
    rintro e W2 (⟨rfl, hJ2, hk2⟩ | ⟨rfl, hx⟩)
    · (try dsimp only)
      replace hS1 := hk2.1.trans hS1
      replace hS2 := hk2.2.trans hS2
      refine hK _ _ ?_
      clear hK K
      (try simp only [Act.put, lsA, lsZ, lsS])
      refine inY 17 (h := ?_)
      (try simp only [Act.put, lsA, lsZ, lsS])
      refine inY 18 (h := ?_)
      (try simp only [Act.put, lsA, lsZ, lsS])
      refine inY 19 (h := ?_)
      (try simp only [Act.put, lsA, lsZ, lsS])
      refine (fun (key2 : (?T2 : Prop)) => ?AB2) ?G2
      case AB2 =>
        refine wpAnyIn_ready (rs := [20, 23]) (by kernel_rfl) (by simp) ?_
        refine AllReadyIn.cons (o := ?o33) ?ho33 (fun K hK => ?rest33) (AllReadyIn.cons (o := ?o34) ?ho34 (fun K hK => ?rest34) AllReadyIn.nil)
        case ho33 => (simp only [lgA, lgZ, lgS]; rfl)
        case ho34 => (simp only [lgA, lgZ, lgS]; rfl)
        refine in_pos rfl ?_
        go_simp
        refine hK _ _ ?_
        clear hK K
        (try simp only [Act.put, lsA, lsZ, lsS])
        refine inY 21 (h := ?_)
        (try simp only [Act.put, lsA, lsZ, lsS])
        refine inY 22 (h := ?_)
        (try simp only [Act.put, lsA, lsZ, lsS])
        refine wpAnyIn_ready (rs := [23]) (by kernel_rfl) (by simp) ?_
        refine AllReadyIn.cons (o := ?o37) ?ho37 (fun K hK => ?rest37) AllReadyIn.nil
        case ho37 => (simp only [lgA, lgZ, lgS]; rfl)
        refine in_pos rfl ?_
        go_simp
        refine hK _ _ ?_
        clear hK K
        (try simp only [Act.put, lsA, lsZ, lsS])
        refine inY 24 (h := ?_)
        (try simp only [Act.put, lsA, lsZ, lsS])
        refine inY 25 (h := ?_)
        (try simp only [Act.put, lsA, lsZ, lsS])
        exact key2
        refine in_pos rfl ?_
        go_simp
        refine hK _ _ ?_
        clear hK K
        (try simp only [Act.put, lsA, lsZ, lsS])
        refine inY 24 (h := ?_)
        (try simp only [Act.put, lsA, lsZ, lsS])
        refine inY 25 (h := ?_)
        (try simp only [Act.put, lsA, lsZ, lsS])
        refine wpAnyIn_ready (rs := [20]) (by kernel_rfl) (by simp) ?_
        refine AllReadyIn.cons (o := ?o42) ?ho42 (fun K hK => ?rest42) AllReadyIn.nil
        case ho42 => (simp only [lgA, lgZ, lgS]; rfl)
        refine in_pos rfl ?_
        go_simp
        refine hK _ _ ?_
        clear hK K
        (try simp only [Act.put, lsA, lsZ, lsS])
        refine inY 21 (h := ?_)
        (try simp only [Act.put, lsA, lsZ, lsS])
        refine inY 22 (h := ?_)
        (try simp only [Act.put, lsA, lsZ, lsS])
        exact key2
      obtain ⟨fn2, tmps2, assign2, body2, hy2, hR2⟩ := hY [p0, p1] p2 _ hJ2 (by simp)
      simp only [encM, p2, Nat.reduceMul, Nat.mul_zero, Nat.mul_one] at hy2
      refine wpAnyIn_ready (rs := [26]) (by kernel_rfl) (by simp) ?_
      refine AllReadyIn.cons (o := ?o45) ?ho45 (fun K hK => ?rest45) AllReadyIn.nil
      case ho45 => (simp only [lgA, lgZ, lgS]; rfl)
      refine in_pos rfl ?_
      gi_wp2_with fail
      refine hR2.mono ?_
      rintro e W3 (⟨rfl, hJ3, hk3⟩ | ⟨rfl, hx⟩)
      · (try dsimp only)
        replace hS1 := hk3.1.trans hS1
        replace hS2 := hk3.2.trans hS2
        refine hK _ _ ?_
        clear hK K
        (try simp only [Act.put, lsA, lsZ, lsS])
        refine inY 27 (h := ?_)
        (try simp only [Act.put, lsA, lsZ, lsS])
        refine inY 28 (h := ?_)
        (try simp only [Act.put, lsA, lsZ, lsS])
        refine inY 29 (h := ?_)
        (try simp only [Act.put, lsA, lsZ, lsS])
        refine (fun (key3 : (?T3 : Prop)) => ?AB3) ?G3
        case AB3 =>
          refine wpAnyIn_ready (rs := [30, 33]) (by kernel_rfl) (by simp) ?_
          refine AllReadyIn.cons (o := ?o49) ?ho49 (fun K hK => ?rest49) (AllReadyIn.cons (o := ?o50) ?ho50 (fun K hK => ?rest50) AllReadyIn.nil)
          case ho49 => (simp only [lgA, lgZ, lgS]; rfl)
          case ho50 => (simp only [lgA, lgZ, lgS]; rfl)
          refine in_pos rfl ?_
          go_simp
          refine hK _ _ ?_
          clear hK K
          (try simp only [Act.put, lsA, lsZ, lsS])
          refine inY 31 (h := ?_)
          (try simp only [Act.put, lsA, lsZ, lsS])
          refine inY 32 (h := ?_)
          (try simp only [Act.put, lsA, lsZ, lsS])
          refine wpAnyIn_ready (rs := [33]) (by kernel_rfl) (by simp) ?_
          refine AllReadyIn.cons (o := ?o53) ?ho53 (fun K hK => ?rest53) AllReadyIn.nil
          case ho53 => (simp only [lgA, lgZ, lgS]; rfl)
          refine in_pos rfl ?_
          go_simp
          refine hK _ _ ?_
          clear hK K
          (try simp only [Act.put, lsA, lsZ, lsS])
          refine inY 34 (h := ?_)
          (try simp only [Act.put, lsA, lsZ, lsS])
          refine inY 35 (h := ?_)
          (try simp only [Act.put, lsA, lsZ, lsS])
          exact key3
          refine in_pos rfl ?_
          go_simp
          refine hK _ _ ?_
          clear hK K
          (try simp only [Act.put, lsA, lsZ, lsS])
          refine inY 34 (h := ?_)
          (try simp only [Act.put, lsA, lsZ, lsS])
          refine inY 35 (h := ?_)
          (try simp only [Act.put, lsA, lsZ, lsS])
          refine wpAnyIn_ready (rs := [30]) (by kernel_rfl) (by simp) ?_
          refine AllReadyIn.cons (o := ?o58) ?ho58 (fun K hK => ?rest58) AllReadyIn.nil
          case ho58 => (simp only [lgA, lgZ, lgS]; rfl)
          refine in_pos rfl ?_
          go_simp
          refine hK _ _ ?_
          clear hK K
          (try simp only [Act.put, lsA, lsZ, lsS])
          refine inY 31 (h := ?_)
          (try simp only [Act.put, lsA, lsZ, lsS])
          refine inY 32 (h := ?_)
          (try simp only [Act.put, lsA, lsZ, lsS])
          exact key3
        obtain ⟨fn3, tmps3, assign3, body3, hy3, hR3⟩ := hY [p0, p1, p2] p3 _ hJ3 (by simp)
        simp only [encM, p3, Nat.reduceMul, Nat.mul_zero, Nat.mul_one] at hy3
        refine wpAnyIn_ready (rs := [36]) (by kernel_rfl) (by simp) ?_
        refine AllReadyIn.cons (o := ?o61) ?ho61 (fun K hK => ?rest61) AllReadyIn.nil
        case ho61 => (simp only [lgA, lgZ, lgS]; rfl)
        refine in_pos rfl ?_
        gi_wp2_with fail
        refine hR3.mono ?_
        rintro e W4 (⟨rfl, hJ4, hk4⟩ | ⟨rfl, hx⟩)
        · (try dsimp only)
          replace hS1 := hk4.1.trans hS1
          replace hS2 := hk4.2.trans hS2
          refine hK _ _ ?_
          clear hK K
          (try simp only [Act.put, lsA, lsZ, lsS])
          refine inY 37 (h := ?_)
          (try simp only [Act.put, lsA, lsZ, lsS])
          refine wpAnyIn_done (by kernel_rfl) ?_ _
          refine NoPan.normal ?_
          gi_wp2_with fail
          go_end0
          exact ⟨⟨_, rfl⟩, .inl ⟨_, rfl, hJ4⟩⟩
        · (try dsimp only)
          refine hK _ _ ?_
          clear hK K
          (try simp only [Act.put, lsA, lsZ, lsS])
          refine inY 37 (h := ?_)
          (try simp only [Act.put, lsA, lsZ, lsS])
          refine wpAnyIn_done (by kernel_rfl) ?_ _
          refine NoPan.normal ?_
          gi_wp2_with fail
          go_end0
          exact ⟨⟨_, rfl⟩, .inr ⟨_, trivial, hx⟩⟩
      · (try dsimp only)
        refine hK _ _ ?_
        clear hK K
        (try simp only [Act.put, lsA, lsZ, lsS])
        refine inY 27 (h := ?_)
        (try simp only [Act.put, lsA, lsZ, lsS])
        refine inY 28 (h := ?_)
        (try simp only [Act.put, lsA, lsZ, lsS])
        refine inN 29 (h := ?_)
        (try simp only [Act.put, lsA, lsZ, lsS])
        refine inN 30 (h := ?_)
        (try simp only [Act.put, lsA, lsZ, lsS])
        refine inN 31 (h := ?_)
        (try simp only [Act.put, lsA, lsZ, lsS])
        refine inN 32 (h := ?_)
        (try simp only [Act.put, lsA, lsZ, lsS])
        refine inN 33 (h := ?_)
        (try simp only [Act.put, lsA, lsZ, lsS])
        refine inN 34 (h := ?_)
        (try simp only [Act.put, lsA, lsZ, lsS])
        refine inN 35 (h := ?_)
        (try simp only [Act.put, lsA, lsZ, lsS])
        refine inN 36 (h := ?_)
        (try simp only [Act.put, lsA, lsZ, lsS])
        refine inY 37 (h := ?_)
        (try simp only [Act.put, lsA, lsZ, lsS])
        refine wpAnyIn_done (by kernel_rfl) ?_ _
        refine NoPan.normal ?_
        gi_wp2_with fail
        go_end0
        exact ⟨⟨_, rfl⟩, .inr ⟨_, trivial, hx⟩⟩
    · (try dsimp only)
      refine hK _ _ ?_
      clear hK K
      (try simp only [Act.put, lsA, lsZ, lsS])
      refine inY 17 (h := ?_)
      (try simp only [Act.put, lsA, lsZ, lsS])
      refine inY 18 (h := ?_)
      (try simp only [Act.put, lsA, lsZ, lsS])
      refine inN 19 (h := ?_)
      (try simp only [Act.put, lsA, lsZ, lsS])
      refine inN 20 (h := ?_)
      (try simp only [Act.put, lsA, lsZ, lsS])
      refine inN 21 (h := ?_)
      (try simp only [Act.put, lsA, lsZ, lsS])
      refine inN 22 (h := ?_)
      (try simp only [Act.put, lsA, lsZ, lsS])
      refine inN 23 (h := ?_)
      (try simp only [Act.put, lsA, lsZ, lsS])
      refine inN 24 (h := ?_)
      (try simp only [Act.put, lsA, lsZ, lsS])
      refine inN 25 (h := ?_)
      (try simp only [Act.put, lsA, lsZ, lsS])
      refine inN 26 (h := ?_)
      (try simp only [Act.put, lsA, lsZ, lsS])
      refine inY 27 (h := ?_)
      (try simp only [Act.put, lsA, lsZ, lsS])
      refine inY 28 (h := ?_)
      (try simp only [Act.put, lsA, lsZ, lsS])
      refine inN 29 (h := ?_)
      (try simp only [Act.put, lsA, lsZ, lsS])
      refine inN 30 (h := ?_)
      (try simp only [Act.put, lsA, lsZ, lsS])
      refine inN 31 (h := ?_)
      (try simp only [Act.put, lsA, lsZ, lsS])
      refine inN 32 (h := ?_)
      (try simp only [Act.put, lsA, lsZ, lsS])
      refine inN 33 (h := ?_)
      (try simp only [Act.put, lsA, lsZ, lsS])
      refine inN 34 (h := ?_)
      (try simp only [Act.put, lsA, lsZ, lsS])
      refine inN 35 (h := ?_)
      (try simp only [Act.put, lsA, lsZ, lsS])
      refine inN 36 (h := ?_)
      (try simp only [Act.put, lsA, lsZ, lsS])
      refine inY 37 (h := ?_)
      (try simp only [Act.put, lsA, lsZ, lsS])
      refine wpAnyIn_done (by kernel_rfl) ?_ _
      refine NoPan.normal ?_
      gi_wp2_with fail
      go_end0
      exact ⟨⟨_, rfl⟩, .inr ⟨_, trivial, hx⟩⟩
  · (try dsimp only)
    refine hK _ _ ?_
    clear hK K
    (try simp only [Act.put, lsA, lsZ, lsS])
    refine inY 8 (h := ?_)
    (try simp only [Act.put, lsA, lsZ, lsS])
    refine inN 9 (h := ?_)
    (try simp only [Act.put, lsA, lsZ, lsS])
    refine inN 10 (h := ?_)
    (try simp only [Act.put, lsA, lsZ, lsS])
    refine inN 11 (h := ?_)
    (try simp only [Act.put, lsA, lsZ, lsS])
    refine inN 12 (h := ?_)
    (try simp only [Act.put, lsA, lsZ, lsS])
    refine inN 13 (h := ?_)
    (try simp only [Act.put, lsA, lsZ, lsS])
    refine inN 14 (h := ?_)
    (try simp only [Act.put, lsA, lsZ, lsS])
    refine inN 15 (h := ?_)
    (try simp only [Act.put, lsA, lsZ, lsS])
    refine inN 16 (h := ?_)
    (try simp only [Act.put, lsA, lsZ, lsS])
    refine inY 17 (h := ?_)
    (try simp only [Act.put, lsA, lsZ, lsS])
    refine inY 18 (h := ?_)
    (try simp only [Act.put, lsA, lsZ, lsS])
    refine inN 19 (h := ?_)
    (try simp only [Act.put, lsA, lsZ, lsS])
    refine inN 20 (h := ?_)
    (try simp only [Act.put, lsA, lsZ, lsS])
    refine inN 21 (h := ?_)
    (try simp only [Act.put, lsA, lsZ, lsS])
    refine inN 22 (h := ?_)
    (try simp only [Act.put, lsA, lsZ, lsS])
    refine inN 23 (h := ?_)
    (try simp only [Act.put, lsA, lsZ, lsS])
    refine inN 24 (h := ?_)
    (try simp only [Act.put, lsA, lsZ, lsS])
    refine inN 25 (h := ?_)
    (try simp only [Act.put, lsA, lsZ, lsS])
    refine inN 26 (h := ?_)
    (try simp only [Act.put, lsA, lsZ, lsS])
    refine inY 27 (h := ?_)
    (try simp only [Act.put, lsA, lsZ, lsS])
    refine inY 28 (h := ?_)
    (try simp only [Act.put, lsA, lsZ, lsS])
    refine inN 29 (h := ?_)
    (try simp only [Act.put, lsA, lsZ, lsS])
    refine inN 30 (h := ?_)
    (try simp only [Act.put, lsA, lsZ, lsS])
    refine inN 31 (h := ?_)
    (try simp only [Act.put, lsA, lsZ, lsS])
    refine inN 32 (h := ?_)
    (try simp only [Act.put, lsA, lsZ, lsS])
    refine inN 33 (h := ?_)
    (try simp only [Act.put, lsA, lsZ, lsS])
    refine inN 34 (h := ?_)
    (try simp only [Act.put, lsA, lsZ, lsS])
    refine inN 35 (h := ?_)
    (try simp only [Act.put, lsA, lsZ, lsS])
    refine inN 36 (h := ?_)
    (try simp only [Act.put, lsA, lsZ, lsS])
    refine inY 37 (h := ?_)
    (try simp only [Act.put, lsA, lsZ, lsS])
    refine wpAnyIn_done (by kernel_rfl) ?_ _
    refine NoPan.normal ?_
    gi_wp2_with fail
    go_end0
    exact ⟨⟨_, rfl⟩, .inr ⟨_, trivial, hx⟩⟩
end Go.Proofs.Ytjmhefkmpfkpbaa
