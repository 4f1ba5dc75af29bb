/- Mass: the iterator over the parts of masses -/
import Derived.Test.YtdmjdpaehnhdoaaDoorMB
import Derived.Test.YtdmjdpaehnhdoaaDoorKA
import Derived.RangeFuncNested
import Derived.RangeFuncBound
import Derived.RangeFuncCalls
import Derived.RangeFuncLeaves
import Derived.RangeFuncBox
import Derived.Shelf.Abstract
import Derived.Shelf.RegionOpen
import Derived.WalkKit
import Derived.OwnWalkIn
import Derived.TacticsInMore
import Derived.LoopNIn
import Derived.LoopIn
namespace Go.Proofs.YtdmjdpaehnhdoaaDoor
open Go.Shelf Go.ChangeShapes Go.WideShapes Go.ChangeAt Go.RowKit
set_option linter.unusedSimpArgs false
set_option linter.unusedVariables false
/-- The iterator's own boxes stay. -/
def KpM (g1 g2 : Nat) (W W' : World) : Prop := W'.cell? ⟨g1, 0, none⟩ = W.cell? ⟨g1, 0, none⟩ ∧ W'.cell? ⟨g2, 0, none⟩ = W.cell? ⟨g2, 0, none⟩
theorem kpM_t {g1 g2 : Nat} {A B C : World} (h : KpM g1 g2 A B) (k : KpM g1 g2 B C) : KpM g1 g2 A C := ⟨k.1.trans h.1, k.2.trans h.2⟩
abbrev P4 := {k : Nat // k < 4}
abbrev p0 : P4 := ⟨0, by omega⟩
abbrev p1 : P4 := ⟨1, by omega⟩
abbrev p2 : P4 := ⟨2, by omega⟩
abbrev p3 : P4 := ⟨3, by omega⟩
abbrev encM (ga gb : Nat) (k : P4) : Array Value := #[.pointer (some ⟨ga, 3 * k.1, none⟩), .pointer (some ⟨gb, 3 * k.1, none⟩)]
section
variable {F : Fence} {n : Nat} {P : Program} {ops : Array Oper} {Q : Exit → Act → World → Prop} {md : Region.Mode}
theorem wpIn_region_np {id : Nat} {a : Act} {w : World} (hm : P.follows .mixedOrders = true) (h : wpAnyIn F n P .any ops (NoPan Q) ops.size (Array.replicate ops.size false) a { w with drawn := w.drawn + 1 }) : (Code.region id ops true).wpIn F n P Q a w :=
  wpIn_mono (wpIn_region_any hm h) NoPan.imp
end
theorem in_pos {c : Bool} {A B : Prop} (h : c = true) (hA : A) : if c = true then A else B := by rw [if_pos h]; exact hA
attribute [local go_sem] Oper.semAt_some
set_option maxRecDepth 100000 in
set_option maxHeartbeats 8000000 in
theorem parts_in (n l g1 g2 ga gb : Nat) (hn : 1 ≤ n) (J Jx : List P4 → World → Prop) (W : World) 
    (hY : ∀ pre x W1, J pre W1 → pre.length < 4 → YieldAt Fence.wide (n - 1) Tryd.prog l (encM ga gb x) W1 fun e W' => (e = .returned (.bool true) ∧ J (pre ++ [x]) W' ∧ KpM g1 g2 W1 W') ∨ (e = .returned (.bool false) ∧ Jx (pre ++ [x]) W'))
    (hSc : W.cell? ⟨g1, 0, none⟩ = some (.pointer (some ⟨ga, 0, none⟩)) ∧ W.cell? ⟨g2, 0, none⟩ = some (.pointer (some ⟨gb, 0, none⟩))) (hJd : ∀ s A, J s A → J s { A with drawn := A.drawn + 1 }) (h0' : J [] W) :
    CallsIn Fence.wide n Tryd.prog 75 #[.func (.yield l) #[] #[], .pointer (some ⟨g1, 0, none⟩), .pointer (some ⟨g2, 0, none⟩)] W fun e W' => (∃ v, e = .returned v) ∧
      ((∃ ys, ys = [p0, p1, p2, p3] ∧ J ys W') ∨ (∃ pre, True ∧ Jx pre W')) := by
  refine callsIn_of_wp Tryd.func75 rfl trivial ?_ rfl
  simp only [Tryd.ntmps75, List.size_toArray, List.length_cons, List.length_nil, Nat.reduceAdd, Nat.reduceSub, Array.replicate_succ, Array.replicate_zero, List.push_toArray, List.append_toArray, List.nil_append, List.cons_append]
  gi_wp2_with fail
  refine wpIn_region_np (by kernel_rfl) ?_
  have h0 := hJd _ _ h0'
  obtain ⟨V, hV⟩ : ∃ V : World, V = { W with drawn := W.drawn + 1 } := ⟨_, rfl⟩
  rw [← hV] at h0 ⊢
  have hS1 : V.cell? ⟨g1, 0, none⟩ = some (.pointer (some ⟨ga, 0, none⟩)) := by rw [hV]; exact hSc.1
  have hS2 : V.cell? ⟨g2, 0, none⟩ = some (.pointer (some ⟨gb, 0, none⟩)) := by rw [hV]; exact hSc.2
  clear hV h0' hSc
  simp only [List.size_toArray, List.length_cons, List.length_nil, Nat.reduceAdd, Array.replicate_succ, Array.replicate_zero, List.push_toArray, List.append_toArray, List.nil_append, List.cons_append]
  refine wpAnyIn_take (i := 0) (oi := ?o1) (v := ?v1) rfl ?ho1 (by kernel_rfl) (by kernel_rfl) (by kernel_rfl) (fun _ _ _ h => h) ⟨Or.inl ⟨?wn1, ?yn1⟩, ?ab1⟩ ?rest1
  case ho1 => (simp only [List.getElem?_toArray, List.getElem?_cons_zero, List.getElem?_cons_succ]; rfl)
  case wn1 => rfl
  case ab1 => exact fun _ => rfl
  case yn1 => (intro w; go_simp; (try with_reducible rfl))
  (try simp only [Act.put, List.setIfInBounds_toArray, List.set_cons_zero, List.set_cons_succ])
  refine (fun (key0 : (?T0 : Prop)) => ?AB0) ?G0
  case AB0 =>
    refine wpAnyIn_ready (rs := [1, 4]) (by kernel_rfl) (by simp) ?_
    refine AllReadyIn.cons (o := ?o2) ?ho2 (fun K hK => ?rest2) (AllReadyIn.cons (o := ?o3) ?ho3 (fun K hK => ?rest3) AllReadyIn.nil)
    case ho2 => (simp only [List.getElem?_toArray, List.getElem?_cons_zero, List.getElem?_cons_succ]; rfl)
    case ho3 => (simp only [List.getElem?_toArray, List.getElem?_cons_zero, List.getElem?_cons_succ]; rfl)
    refine in_pos rfl ?_
    go_simp
    refine hK _ _ ?_
    clear hK K
    (try simp only [Act.put, List.setIfInBounds_toArray, List.set_cons_zero, List.set_cons_succ])
    refine wpAnyIn_take (i := 2) (oi := ?o4) (v := ?v4) rfl ?ho4 (by kernel_rfl) (by kernel_rfl) (by kernel_rfl) (fun _ _ _ h => h) ⟨Or.inl ⟨?wn4, ?yn4⟩, ?ab4⟩ ?rest4
    case ho4 => (simp only [List.getElem?_toArray, List.getElem?_cons_zero, List.getElem?_cons_succ]; rfl)
    case wn4 => rfl
    case ab4 => exact fun _ => rfl
    case yn4 => (intro w; go_simp; (try with_reducible rfl))
    (try simp only [Act.put, List.setIfInBounds_toArray, List.set_cons_zero, List.set_cons_succ])
    refine wpAnyIn_take (i := 3) (oi := ?o5) (v := ?v5) rfl ?ho5 (by kernel_rfl) (by kernel_rfl) (by kernel_rfl) (fun _ _ _ h => h) ⟨Or.inl ⟨?wn5, ?yn5⟩, ?ab5⟩ ?rest5
    case ho5 => (simp only [List.getElem?_toArray, List.getElem?_cons_zero, List.getElem?_cons_succ]; rfl)
    case wn5 => rfl
    case ab5 => exact fun _ => rfl
    case yn5 => (intro w; go_simp; (try with_reducible rfl))
    (try simp only [Act.put, List.setIfInBounds_toArray, List.set_cons_zero, List.set_cons_succ])
    refine wpAnyIn_ready (rs := [4]) (by kernel_rfl) (by simp) ?_
    refine AllReadyIn.cons (o := ?o6) ?ho6 (fun K hK => ?rest6) AllReadyIn.nil
    case ho6 => (simp only [List.getElem?_toArray, List.getElem?_cons_zero, List.getElem?_cons_succ]; rfl)
    refine in_pos rfl ?_
    go_simp
    refine hK _ _ ?_
    clear hK K
    (try simp only [Act.put, List.setIfInBounds_toArray, List.set_cons_zero, List.set_cons_succ])
    refine wpAnyIn_take (i := 5) (oi := ?o7) (v := ?v7) rfl ?ho7 (by kernel_rfl) (by kernel_rfl) (by kernel_rfl) (fun _ _ _ h => h) ⟨Or.inl ⟨?wn7, ?yn7⟩, ?ab7⟩ ?rest7
    case ho7 => (simp only [List.getElem?_toArray, List.getElem?_cons_zero, List.getElem?_cons_succ]; rfl)
    case wn7 => rfl
    case ab7 => exact fun _ => rfl
    case yn7 => (intro w; go_simp; (try with_reducible rfl))
    (try simp only [Act.put, List.setIfInBounds_toArray, List.set_cons_zero, List.set_cons_succ])
    refine wpAnyIn_take (i := 6) (oi := ?o8) (v := ?v8) rfl ?ho8 (by kernel_rfl) (by kernel_rfl) (by kernel_rfl) (fun _ _ _ h => h) ⟨Or.inl ⟨?wn8, ?yn8⟩, ?ab8⟩ ?rest8
    case ho8 => (simp only [List.getElem?_toArray, List.getElem?_cons_zero, List.getElem?_cons_succ]; rfl)
    case wn8 => rfl
    case ab8 => exact fun _ => rfl
    case yn8 => (intro w; go_simp; (try with_reducible rfl))
    (try simp only [Act.put, List.setIfInBounds_toArray, List.set_cons_zero, List.set_cons_succ])
    exact key0
    refine in_pos rfl ?_
    go_simp
    refine hK _ _ ?_
    clear hK K
    (try simp only [Act.put, List.setIfInBounds_toArray, List.set_cons_zero, List.set_cons_succ])
    refine wpAnyIn_take (i := 5) (oi := ?o9) (v := ?v9) rfl ?ho9 (by kernel_rfl) (by kernel_rfl) (by kernel_rfl) (fun _ _ _ h => h) ⟨Or.inl ⟨?wn9, ?yn9⟩, ?ab9⟩ ?rest9
    case ho9 => (simp only [List.getElem?_toArray, List.getElem?_cons_zero, List.getElem?_cons_succ]; rfl)
    case wn9 => rfl
    case ab9 => exact fun _ => rfl
    case yn9 => (intro w; go_simp; (try with_reducible rfl))
    (try simp only [Act.put, List.setIfInBounds_toArray, List.set_cons_zero, List.set_cons_succ])
    refine wpAnyIn_take (i := 6) (oi := ?o10) (v := ?v10) rfl ?ho10 (by kernel_rfl) (by kernel_rfl) (by kernel_rfl) (fun _ _ _ h => h) ⟨Or.inl ⟨?wn10, ?yn10⟩, ?ab10⟩ ?rest10
    case ho10 => (simp only [List.getElem?_toArray, List.getElem?_cons_zero, List.getElem?_cons_succ]; rfl)
    case wn10 => rfl
    case ab10 => exact fun _ => rfl
    case yn10 => (intro w; go_simp; (try with_reducible rfl))
    (try simp only [Act.put, List.setIfInBounds_toArray, List.set_cons_zero, List.set_cons_succ])
    refine wpAnyIn_ready (rs := [1]) (by kernel_rfl) (by simp) ?_
    refine AllReadyIn.cons (o := ?o11) ?ho11 (fun K hK => ?rest11) AllReadyIn.nil
    case ho11 => (simp only [List.getElem?_toArray, List.getElem?_cons_zero, List.getElem?_cons_succ]; rfl)
    refine in_pos rfl ?_
    go_simp
    refine hK _ _ ?_
    clear hK K
    (try simp only [Act.put, List.setIfInBounds_toArray, List.set_cons_zero, List.set_cons_succ])
    refine wpAnyIn_take (i := 2) (oi := ?o12) (v := ?v12) rfl ?ho12 (by kernel_rfl) (by kernel_rfl) (by kernel_rfl) (fun _ _ _ h => h) ⟨Or.inl ⟨?wn12, ?yn12⟩, ?ab12⟩ ?rest12
    case ho12 => (simp only [List.getElem?_toArray, List.getElem?_cons_zero, List.getElem?_cons_succ]; rfl)
    case wn12 => rfl
    case ab12 => exact fun _ => rfl
    case yn12 => (intro w; go_simp; (try with_reducible rfl))
    (try simp only [Act.put, List.setIfInBounds_toArray, List.set_cons_zero, List.set_cons_succ])
    refine wpAnyIn_take (i := 3) (oi := ?o13) (v := ?v13) rfl ?ho13 (by kernel_rfl) (by kernel_rfl) (by kernel_rfl) (fun _ _ _ h => h) ⟨Or.inl ⟨?wn13, ?yn13⟩, ?ab13⟩ ?rest13
    case ho13 => (simp only [List.getElem?_toArray, List.getElem?_cons_zero, List.getElem?_cons_succ]; rfl)
    case wn13 => rfl
    case ab13 => exact fun _ => rfl
    case yn13 => (intro w; go_simp; (try with_reducible rfl))
    (try simp only [Act.put, List.setIfInBounds_toArray, List.set_cons_zero, List.set_cons_succ])
    exact key0
  obtain ⟨fn0, tmps0, assign0, body0, hy0, hR0⟩ := hY [] p0 _ h0 (by simp)
  simp only [encM, p0, Nat.reduceMul, Nat.mul_zero, Nat.mul_one] at hy0
  refine wpAnyIn_ready (rs := [7]) (by kernel_rfl) (by simp) ?_
  refine AllReadyIn.cons (o := ?o14) ?ho14 (fun K hK => ?rest14) AllReadyIn.nil
  case ho14 => (simp only [List.getElem?_toArray, List.getElem?_cons_zero, List.getElem?_cons_succ]; rfl)
  refine in_pos rfl ?_
  gi_wp2_with fail
  refine hR0.mono ?_
  rintro e W1 (⟨rfl, hJ1, hk1⟩ | ⟨rfl, hx⟩)
  · (try dsimp only)
    replace hS1 := hk1.1.trans hS1
    replace hS2 := hk1.2.trans hS2
    refine hK _ _ ?_
    clear hK K
    (try simp only [Act.put, List.setIfInBounds_toArray, List.set_cons_zero, List.set_cons_succ])
    refine wpAnyIn_take (i := 8) (oi := ?o15) (v := ?v15) rfl ?ho15 (by kernel_rfl) (by kernel_rfl) (by kernel_rfl) (fun _ _ _ h => h) ⟨Or.inl ⟨?wn15, ?yn15⟩, ?ab15⟩ ?rest15
    case ho15 => (simp only [List.getElem?_toArray, List.getElem?_cons_zero, List.getElem?_cons_succ]; rfl)
    case wn15 => rfl
    case ab15 => exact fun _ => rfl
    case yn15 => (intro w; go_simp; (try with_reducible rfl))
    (try simp only [Act.put, List.setIfInBounds_toArray, List.set_cons_zero, List.set_cons_succ])
    refine wpAnyIn_take (i := 9) (oi := ?o16) (v := ?v16) rfl ?ho16 (by kernel_rfl) (by kernel_rfl) (by kernel_rfl) (fun _ _ _ h => h) ⟨Or.inl ⟨?wn16, ?yn16⟩, ?ab16⟩ ?rest16
    case ho16 => (simp only [List.getElem?_toArray, List.getElem?_cons_zero, List.getElem?_cons_succ]; rfl)
    case wn16 => rfl
    case ab16 => exact fun _ => rfl
    case yn16 => (intro w; go_simp; (try with_reducible rfl))
    (try simp only [Act.put, List.setIfInBounds_toArray, List.set_cons_zero, List.set_cons_succ])
    refine (fun (key1 : (?T1 : Prop)) => ?AB1) ?G1
    case AB1 =>
      refine wpAnyIn_ready (rs := [10, 13]) (by kernel_rfl) (by simp) ?_
      refine AllReadyIn.cons (o := ?o17) ?ho17 (fun K hK => ?rest17) (AllReadyIn.cons (o := ?o18) ?ho18 (fun K hK => ?rest18) AllReadyIn.nil)
      case ho17 => (simp only [List.getElem?_toArray, List.getElem?_cons_zero, List.getElem?_cons_succ]; rfl)
      case ho18 => (simp only [List.getElem?_toArray, List.getElem?_cons_zero, List.getElem?_cons_succ]; rfl)
      refine in_pos rfl ?_
      go_simp
      refine hK _ _ ?_
      clear hK K
      (try simp only [Act.put, List.setIfInBounds_toArray, List.set_cons_zero, List.set_cons_succ])
      refine wpAnyIn_take (i := 11) (oi := ?o19) (v := ?v19) rfl ?ho19 (by kernel_rfl) (by kernel_rfl) (by kernel_rfl) (fun _ _ _ h => h) ⟨Or.inl ⟨?wn19, ?yn19⟩, ?ab19⟩ ?rest19
      case ho19 => (simp only [List.getElem?_toArray, List.getElem?_cons_zero, List.getElem?_cons_succ]; rfl)
      case wn19 => rfl
      case ab19 => exact fun _ => rfl
      case yn19 => (intro w; go_simp; (try with_reducible rfl))
      (try simp only [Act.put, List.setIfInBounds_toArray, List.set_cons_zero, List.set_cons_succ])
      refine wpAnyIn_take (i := 12) (oi := ?o20) (v := ?v20) rfl ?ho20 (by kernel_rfl) (by kernel_rfl) (by kernel_rfl) (fun _ _ _ h => h) ⟨Or.inl ⟨?wn20, ?yn20⟩, ?ab20⟩ ?rest20
      case ho20 => (simp only [List.getElem?_toArray, List.getElem?_cons_zero, List.getElem?_cons_succ]; rfl)
      case wn20 => rfl
      case ab20 => exact fun _ => rfl
      case yn20 => (intro w; go_simp; (try with_reducible rfl))
      (try simp only [Act.put, List.setIfInBounds_toArray, List.set_cons_zero, List.set_cons_succ])
      refine wpAnyIn_ready (rs := [13]) (by kernel_rfl) (by simp) ?_
      refine AllReadyIn.cons (o := ?o21) ?ho21 (fun K hK => ?rest21) AllReadyIn.nil
      case ho21 => (simp only [List.getElem?_toArray, List.getElem?_cons_zero, List.getElem?_cons_succ]; rfl)
      refine in_pos rfl ?_
      go_simp
      refine hK _ _ ?_
      clear hK K
      (try simp only [Act.put, List.setIfInBounds_toArray, List.set_cons_zero, List.set_cons_succ])
      refine wpAnyIn_take (i := 14) (oi := ?o22) (v := ?v22) rfl ?ho22 (by kernel_rfl) (by kernel_rfl) (by kernel_rfl) (fun _ _ _ h => h) ⟨Or.inl ⟨?wn22, ?yn22⟩, ?ab22⟩ ?rest22
      case ho22 => (simp only [List.getElem?_toArray, List.getElem?_cons_zero, List.getElem?_cons_succ]; rfl)
      case wn22 => rfl
      case ab22 => exact fun _ => rfl
      case yn22 => (intro w; go_simp; (try with_reducible rfl))
      (try simp only [Act.put, List.setIfInBounds_toArray, List.set_cons_zero, List.set_cons_succ])
      refine wpAnyIn_take (i := 15) (oi := ?o23) (v := ?v23) rfl ?ho23 (by kernel_rfl) (by kernel_rfl) (by kernel_rfl) (fun _ _ _ h => h) ⟨Or.inl ⟨?wn23, ?yn23⟩, ?ab23⟩ ?rest23
      case ho23 => (simp only [List.getElem?_toArray, List.getElem?_cons_zero, List.getElem?_cons_succ]; rfl)
      case wn23 => rfl
      case ab23 => exact fun _ => rfl
      case yn23 => (intro w; go_simp; (try with_reducible rfl))
      (try simp only [Act.put, List.setIfInBounds_toArray, List.set_cons_zero, List.set_cons_succ])
      exact key1
      refine in_pos rfl ?_
      go_simp
      refine hK _ _ ?_
      clear hK K
      (try simp only [Act.put, List.setIfInBounds_toArray, List.set_cons_zero, List.set_cons_succ])
      refine wpAnyIn_take (i := 14) (oi := ?o24) (v := ?v24) rfl ?ho24 (by kernel_rfl) (by kernel_rfl) (by kernel_rfl) (fun _ _ _ h => h) ⟨Or.inl ⟨?wn24, ?yn24⟩, ?ab24⟩ ?rest24
      case ho24 => (simp only [List.getElem?_toArray, List.getElem?_cons_zero, List.getElem?_cons_succ]; rfl)
      case wn24 => rfl
      case ab24 => exact fun _ => rfl
      case yn24 => (intro w; go_simp; (try with_reducible rfl))
      (try simp only [Act.put, List.setIfInBounds_toArray, List.set_cons_zero, List.set_cons_succ])
      refine wpAnyIn_take (i := 15) (oi := ?o25) (v := ?v25) rfl ?ho25 (by kernel_rfl) (by kernel_rfl) (by kernel_rfl) (fun _ _ _ h => h) ⟨Or.inl ⟨?wn25, ?yn25⟩, ?ab25⟩ ?rest25
      case ho25 => (simp only [List.getElem?_toArray, List.getElem?_cons_zero, List.getElem?_cons_succ]; rfl)
      case wn25 => rfl
      case ab25 => exact fun _ => rfl
      case yn25 => (intro w; go_simp; (try with_reducible rfl))
      (try simp only [Act.put, List.setIfInBounds_toArray, List.set_cons_zero, List.set_cons_succ])
      refine wpAnyIn_ready (rs := [10]) (by kernel_rfl) (by simp) ?_
      refine AllReadyIn.cons (o := ?o26) ?ho26 (fun K hK => ?rest26) AllReadyIn.nil
      case ho26 => (simp only [List.getElem?_toArray, List.getElem?_cons_zero, List.getElem?_cons_succ]; rfl)
      refine in_pos rfl ?_
      go_simp
      refine hK _ _ ?_
      clear hK K
      (try simp only [Act.put, List.setIfInBounds_toArray, List.set_cons_zero, List.set_cons_succ])
      refine wpAnyIn_take (i := 11) (oi := ?o27) (v := ?v27) rfl ?ho27 (by kernel_rfl) (by kernel_rfl) (by kernel_rfl) (fun _ _ _ h => h) ⟨Or.inl ⟨?wn27, ?yn27⟩, ?ab27⟩ ?rest27
      case ho27 => (simp only [List.getElem?_toArray, List.getElem?_cons_zero, List.getElem?_cons_succ]; rfl)
      case wn27 => rfl
      case ab27 => exact fun _ => rfl
      case yn27 => (intro w; go_simp; (try with_reducible rfl))
      (try simp only [Act.put, List.setIfInBounds_toArray, List.set_cons_zero, List.set_cons_succ])
      refine wpAnyIn_take (i := 12) (oi := ?o28) (v := ?v28) rfl ?ho28 (by kernel_rfl) (by kernel_rfl) (by kernel_rfl) (fun _ _ _ h => h) ⟨Or.inl ⟨?wn28, ?yn28⟩, ?ab28⟩ ?rest28
      case ho28 => (simp only [List.getElem?_toArray, List.getElem?_cons_zero, List.getElem?_cons_succ]; rfl)
      case wn28 => rfl
      case ab28 => exact fun _ => rfl
      case yn28 => (intro w; go_simp; (try with_reducible rfl))
      (try simp only [Act.put, List.setIfInBounds_toArray, List.set_cons_zero, List.set_cons_succ])
      exact key1
    obtain ⟨fn1, tmps1, assign1, body1, hy1, hR1⟩ := hY [p0] p1 _ hJ1 (by simp)
    simp only [encM, p1, Nat.reduceMul, Nat.mul_zero, Nat.mul_one] at hy1
    refine wpAnyIn_ready (rs := [16]) (by kernel_rfl) (by simp) ?_
    refine AllReadyIn.cons (o := ?o29) ?ho29 (fun K hK => ?rest29) AllReadyIn.nil
    case ho29 => (simp only [List.getElem?_toArray, List.getElem?_cons_zero, List.getElem?_cons_succ]; rfl)
    refine in_pos rfl ?_
    gi_wp2_with fail
    refine hR1.mono ?_
    rintro e W2 (⟨rfl, hJ2, hk2⟩ | ⟨rfl, hx⟩)
    · (try dsimp only)
      replace hS1 := hk2.1.trans hS1
      replace hS2 := hk2.2.trans hS2
      refine hK _ _ ?_
      clear hK K
      (try simp only [Act.put, List.setIfInBounds_toArray, List.set_cons_zero, List.set_cons_succ])
      refine wpAnyIn_take (i := 17) (oi := ?o30) (v := ?v30) rfl ?ho30 (by kernel_rfl) (by kernel_rfl) (by kernel_rfl) (fun _ _ _ h => h) ⟨Or.inl ⟨?wn30, ?yn30⟩, ?ab30⟩ ?rest30
      case ho30 => (simp only [List.getElem?_toArray, List.getElem?_cons_zero, List.getElem?_cons_succ]; rfl)
      case wn30 => rfl
      case ab30 => exact fun _ => rfl
      case yn30 => (intro w; go_simp; (try with_reducible rfl))
      (try simp only [Act.put, List.setIfInBounds_toArray, List.set_cons_zero, List.set_cons_succ])
      refine wpAnyIn_take (i := 18) (oi := ?o31) (v := ?v31) rfl ?ho31 (by kernel_rfl) (by kernel_rfl) (by kernel_rfl) (fun _ _ _ h => h) ⟨Or.inl ⟨?wn31, ?yn31⟩, ?ab31⟩ ?rest31
      case ho31 => (simp only [List.getElem?_toArray, List.getElem?_cons_zero, List.getElem?_cons_succ]; rfl)
      case wn31 => rfl
      case ab31 => exact fun _ => rfl
      case yn31 => (intro w; go_simp; (try with_reducible rfl))
      (try simp only [Act.put, List.setIfInBounds_toArray, List.set_cons_zero, List.set_cons_succ])
      refine wpAnyIn_take (i := 19) (oi := ?o32) (v := ?v32) rfl ?ho32 (by kernel_rfl) (by kernel_rfl) (by kernel_rfl) (fun _ _ _ h => h) ⟨Or.inl ⟨?wn32, ?yn32⟩, ?ab32⟩ ?rest32
      case ho32 => (simp only [List.getElem?_toArray, List.getElem?_cons_zero, List.getElem?_cons_succ]; rfl)
      case wn32 => rfl
      case ab32 => exact fun _ => rfl
      case yn32 => (intro w; go_simp; (try with_reducible rfl))
      (try simp only [Act.put, List.setIfInBounds_toArray, List.set_cons_zero, List.set_cons_succ])
      refine (fun (key2 : (?T2 : Prop)) => ?AB2) ?G2
      case AB2 =>
        refine wpAnyIn_ready (rs := [20, 23]) (by kernel_rfl) (by simp) ?_
        refine AllReadyIn.cons (o := ?o33) ?ho33 (fun K hK => ?rest33) (AllReadyIn.cons (o := ?o34) ?ho34 (fun K hK => ?rest34) AllReadyIn.nil)
        case ho33 => (simp only [List.getElem?_toArray, List.getElem?_cons_zero, List.getElem?_cons_succ]; rfl)
        case ho34 => (simp only [List.getElem?_toArray, List.getElem?_cons_zero, List.getElem?_cons_succ]; rfl)
        refine in_pos rfl ?_
        go_simp
        refine hK _ _ ?_
        clear hK K
        (try simp only [Act.put, List.setIfInBounds_toArray, List.set_cons_zero, List.set_cons_succ])
        refine wpAnyIn_take (i := 21) (oi := ?o35) (v := ?v35) rfl ?ho35 (by kernel_rfl) (by kernel_rfl) (by kernel_rfl) (fun _ _ _ h => h) ⟨Or.inl ⟨?wn35, ?yn35⟩, ?ab35⟩ ?rest35
        case ho35 => (simp only [List.getElem?_toArray, List.getElem?_cons_zero, List.getElem?_cons_succ]; rfl)
        case wn35 => rfl
        case ab35 => exact fun _ => rfl
        case yn35 => (intro w; go_simp; (try with_reducible rfl))
        (try simp only [Act.put, List.setIfInBounds_toArray, List.set_cons_zero, List.set_cons_succ])
        refine wpAnyIn_take (i := 22) (oi := ?o36) (v := ?v36) rfl ?ho36 (by kernel_rfl) (by kernel_rfl) (by kernel_rfl) (fun _ _ _ h => h) ⟨Or.inl ⟨?wn36, ?yn36⟩, ?ab36⟩ ?rest36
        case ho36 => (simp only [List.getElem?_toArray, List.getElem?_cons_zero, List.getElem?_cons_succ]; rfl)
        case wn36 => rfl
        case ab36 => exact fun _ => rfl
        case yn36 => (intro w; go_simp; (try with_reducible rfl))
        (try simp only [Act.put, List.setIfInBounds_toArray, List.set_cons_zero, List.set_cons_succ])
        refine wpAnyIn_ready (rs := [23]) (by kernel_rfl) (by simp) ?_
        refine AllReadyIn.cons (o := ?o37) ?ho37 (fun K hK => ?rest37) AllReadyIn.nil
        case ho37 => (simp only [List.getElem?_toArray, List.getElem?_cons_zero, List.getElem?_cons_succ]; rfl)
        refine in_pos rfl ?_
        go_simp
        refine hK _ _ ?_
        clear hK K
        (try simp only [Act.put, List.setIfInBounds_toArray, List.set_cons_zero, List.set_cons_succ])
        refine wpAnyIn_take (i := 24) (oi := ?o38) (v := ?v38) rfl ?ho38 (by kernel_rfl) (by kernel_rfl) (by kernel_rfl) (fun _ _ _ h => h) ⟨Or.inl ⟨?wn38, ?yn38⟩, ?ab38⟩ ?rest38
        case ho38 => (simp only [List.getElem?_toArray, List.getElem?_cons_zero, List.getElem?_cons_succ]; rfl)
        case wn38 => rfl
        case ab38 => exact fun _ => rfl
        case yn38 => (intro w; go_simp; (try with_reducible rfl))
        (try simp only [Act.put, List.setIfInBounds_toArray, List.set_cons_zero, List.set_cons_succ])
        refine wpAnyIn_take (i := 25) (oi := ?o39) (v := ?v39) rfl ?ho39 (by kernel_rfl) (by kernel_rfl) (by kernel_rfl) (fun _ _ _ h => h) ⟨Or.inl ⟨?wn39, ?yn39⟩, ?ab39⟩ ?rest39
        case ho39 => (simp only [List.getElem?_toArray, List.getElem?_cons_zero, List.getElem?_cons_succ]; rfl)
        case wn39 => rfl
        case ab39 => exact fun _ => rfl
        case yn39 => (intro w; go_simp; (try with_reducible rfl))
        (try simp only [Act.put, List.setIfInBounds_toArray, List.set_cons_zero, List.set_cons_succ])
        exact key2
        refine in_pos rfl ?_
        go_simp
        refine hK _ _ ?_
        clear hK K
        (try simp only [Act.put, List.setIfInBounds_toArray, List.set_cons_zero, List.set_cons_succ])
        refine wpAnyIn_take (i := 24) (oi := ?o40) (v := ?v40) rfl ?ho40 (by kernel_rfl) (by kernel_rfl) (by kernel_rfl) (fun _ _ _ h => h) ⟨Or.inl ⟨?wn40, ?yn40⟩, ?ab40⟩ ?rest40
        case ho40 => (simp only [List.getElem?_toArray, List.getElem?_cons_zero, List.getElem?_cons_succ]; rfl)
        case wn40 => rfl
        case ab40 => exact fun _ => rfl
        case yn40 => (intro w; go_simp; (try with_reducible rfl))
        (try simp only [Act.put, List.setIfInBounds_toArray, List.set_cons_zero, List.set_cons_succ])
        refine wpAnyIn_take (i := 25) (oi := ?o41) (v := ?v41) rfl ?ho41 (by kernel_rfl) (by kernel_rfl) (by kernel_rfl) (fun _ _ _ h => h) ⟨Or.inl ⟨?wn41, ?yn41⟩, ?ab41⟩ ?rest41
        case ho41 => (simp only [List.getElem?_toArray, List.getElem?_cons_zero, List.getElem?_cons_succ]; rfl)
        case wn41 => rfl
        case ab41 => exact fun _ => rfl
        case yn41 => (intro w; go_simp; (try with_reducible rfl))
        (try simp only [Act.put, List.setIfInBounds_toArray, List.set_cons_zero, List.set_cons_succ])
        refine wpAnyIn_ready (rs := [20]) (by kernel_rfl) (by simp) ?_
        refine AllReadyIn.cons (o := ?o42) ?ho42 (fun K hK => ?rest42) AllReadyIn.nil
        case ho42 => (simp only [List.getElem?_toArray, List.getElem?_cons_zero, List.getElem?_cons_succ]; rfl)
        refine in_pos rfl ?_
        go_simp
        refine hK _ _ ?_
        clear hK K
        (try simp only [Act.put, List.setIfInBounds_toArray, List.set_cons_zero, List.set_cons_succ])
        refine wpAnyIn_take (i := 21) (oi := ?o43) (v := ?v43) rfl ?ho43 (by kernel_rfl) (by kernel_rfl) (by kernel_rfl) (fun _ _ _ h => h) ⟨Or.inl ⟨?wn43, ?yn43⟩, ?ab43⟩ ?rest43
        case ho43 => (simp only [List.getElem?_toArray, List.getElem?_cons_zero, List.getElem?_cons_succ]; rfl)
        case wn43 => rfl
        case ab43 => exact fun _ => rfl
        case yn43 => (intro w; go_simp; (try with_reducible rfl))
        (try simp only [Act.put, List.setIfInBounds_toArray, List.set_cons_zero, List.set_cons_succ])
        refine wpAnyIn_take (i := 22) (oi := ?o44) (v := ?v44) rfl ?ho44 (by kernel_rfl) (by kernel_rfl) (by kernel_rfl) (fun _ _ _ h => h) ⟨Or.inl ⟨?wn44, ?yn44⟩, ?ab44⟩ ?rest44
        case ho44 => (simp only [List.getElem?_toArray, List.getElem?_cons_zero, List.getElem?_cons_succ]; rfl)
        case wn44 => rfl
        case ab44 => exact fun _ => rfl
        case yn44 => (intro w; go_simp; (try with_reducible rfl))
        (try simp only [Act.put, List.setIfInBounds_toArray, List.set_cons_zero, List.set_cons_succ])
        exact key2
      obtain ⟨fn2, tmps2, assign2, body2, hy2, hR2⟩ := hY [p0, p1] p2 _ hJ2 (by simp)
      simp only [encM, p2, Nat.reduceMul, Nat.mul_zero, Nat.mul_one] at hy2
      refine wpAnyIn_ready (rs := [26]) (by kernel_rfl) (by simp) ?_
      refine AllReadyIn.cons (o := ?o45) ?ho45 (fun K hK => ?rest45) AllReadyIn.nil
      case ho45 => (simp only [List.getElem?_toArray, List.getElem?_cons_zero, List.getElem?_cons_succ]; rfl)
      refine in_pos rfl ?_
      gi_wp2_with fail
      refine hR2.mono ?_
      rintro e W3 (⟨rfl, hJ3, hk3⟩ | ⟨rfl, hx⟩)
      · (try dsimp only)
        replace hS1 := hk3.1.trans hS1
        replace hS2 := hk3.2.trans hS2
        refine hK _ _ ?_
        clear hK K
        (try simp only [Act.put, List.setIfInBounds_toArray, List.set_cons_zero, List.set_cons_succ])
        refine wpAnyIn_take (i := 27) (oi := ?o46) (v := ?v46) rfl ?ho46 (by kernel_rfl) (by kernel_rfl) (by kernel_rfl) (fun _ _ _ h => h) ⟨Or.inl ⟨?wn46, ?yn46⟩, ?ab46⟩ ?rest46
        case ho46 => (simp only [List.getElem?_toArray, List.getElem?_cons_zero, List.getElem?_cons_succ]; rfl)
        case wn46 => rfl
        case ab46 => exact fun _ => rfl
        case yn46 => (intro w; go_simp; (try with_reducible rfl))
        (try simp only [Act.put, List.setIfInBounds_toArray, List.set_cons_zero, List.set_cons_succ])
        refine wpAnyIn_take (i := 28) (oi := ?o47) (v := ?v47) rfl ?ho47 (by kernel_rfl) (by kernel_rfl) (by kernel_rfl) (fun _ _ _ h => h) ⟨Or.inl ⟨?wn47, ?yn47⟩, ?ab47⟩ ?rest47
        case ho47 => (simp only [List.getElem?_toArray, List.getElem?_cons_zero, List.getElem?_cons_succ]; rfl)
        case wn47 => rfl
        case ab47 => exact fun _ => rfl
        case yn47 => (intro w; go_simp; (try with_reducible rfl))
        (try simp only [Act.put, List.setIfInBounds_toArray, List.set_cons_zero, List.set_cons_succ])
        refine wpAnyIn_take (i := 29) (oi := ?o48) (v := ?v48) rfl ?ho48 (by kernel_rfl) (by kernel_rfl) (by kernel_rfl) (fun _ _ _ h => h) ⟨Or.inl ⟨?wn48, ?yn48⟩, ?ab48⟩ ?rest48
        case ho48 => (simp only [List.getElem?_toArray, List.getElem?_cons_zero, List.getElem?_cons_succ]; rfl)
        case wn48 => rfl
        case ab48 => exact fun _ => rfl
        case yn48 => (intro w; go_simp; (try with_reducible rfl))
        (try simp only [Act.put, List.setIfInBounds_toArray, List.set_cons_zero, List.set_cons_succ])
        refine (fun (key3 : (?T3 : Prop)) => ?AB3) ?G3
        case AB3 =>
          refine wpAnyIn_ready (rs := [30, 33]) (by kernel_rfl) (by simp) ?_
          refine AllReadyIn.cons (o := ?o49) ?ho49 (fun K hK => ?rest49) (AllReadyIn.cons (o := ?o50) ?ho50 (fun K hK => ?rest50) AllReadyIn.nil)
          case ho49 => (simp only [List.getElem?_toArray, List.getElem?_cons_zero, List.getElem?_cons_succ]; rfl)
          case ho50 => (simp only [List.getElem?_toArray, List.getElem?_cons_zero, List.getElem?_cons_succ]; rfl)
          refine in_pos rfl ?_
          go_simp
          refine hK _ _ ?_
          clear hK K
          (try simp only [Act.put, List.setIfInBounds_toArray, List.set_cons_zero, List.set_cons_succ])
          refine wpAnyIn_take (i := 31) (oi := ?o51) (v := ?v51) rfl ?ho51 (by kernel_rfl) (by kernel_rfl) (by kernel_rfl) (fun _ _ _ h => h) ⟨Or.inl ⟨?wn51, ?yn51⟩, ?ab51⟩ ?rest51
          case ho51 => (simp only [List.getElem?_toArray, List.getElem?_cons_zero, List.getElem?_cons_succ]; rfl)
          case wn51 => rfl
          case ab51 => exact fun _ => rfl
          case yn51 => (intro w; go_simp; (try with_reducible rfl))
          (try simp only [Act.put, List.setIfInBounds_toArray, List.set_cons_zero, List.set_cons_succ])
          refine wpAnyIn_take (i := 32) (oi := ?o52) (v := ?v52) rfl ?ho52 (by kernel_rfl) (by kernel_rfl) (by kernel_rfl) (fun _ _ _ h => h) ⟨Or.inl ⟨?wn52, ?yn52⟩, ?ab52⟩ ?rest52
          case ho52 => (simp only [List.getElem?_toArray, List.getElem?_cons_zero, List.getElem?_cons_succ]; rfl)
          case wn52 => rfl
          case ab52 => exact fun _ => rfl
          case yn52 => (intro w; go_simp; (try with_reducible rfl))
          (try simp only [Act.put, List.setIfInBounds_toArray, List.set_cons_zero, List.set_cons_succ])
          refine wpAnyIn_ready (rs := [33]) (by kernel_rfl) (by simp) ?_
          refine AllReadyIn.cons (o := ?o53) ?ho53 (fun K hK => ?rest53) AllReadyIn.nil
          case ho53 => (simp only [List.getElem?_toArray, List.getElem?_cons_zero, List.getElem?_cons_succ]; rfl)
          refine in_pos rfl ?_
          go_simp
          refine hK _ _ ?_
          clear hK K
          (try simp only [Act.put, List.setIfInBounds_toArray, List.set_cons_zero, List.set_cons_succ])
          refine wpAnyIn_take (i := 34) (oi := ?o54) (v := ?v54) rfl ?ho54 (by kernel_rfl) (by kernel_rfl) (by kernel_rfl) (fun _ _ _ h => h) ⟨Or.inl ⟨?wn54, ?yn54⟩, ?ab54⟩ ?rest54
          case ho54 => (simp only [List.getElem?_toArray, List.getElem?_cons_zero, List.getElem?_cons_succ]; rfl)
          case wn54 => rfl
          case ab54 => exact fun _ => rfl
          case yn54 => (intro w; go_simp; (try with_reducible rfl))
          (try simp only [Act.put, List.setIfInBounds_toArray, List.set_cons_zero, List.set_cons_succ])
          refine wpAnyIn_take (i := 35) (oi := ?o55) (v := ?v55) rfl ?ho55 (by kernel_rfl) (by kernel_rfl) (by kernel_rfl) (fun _ _ _ h => h) ⟨Or.inl ⟨?wn55, ?yn55⟩, ?ab55⟩ ?rest55
          case ho55 => (simp only [List.getElem?_toArray, List.getElem?_cons_zero, List.getElem?_cons_succ]; rfl)
          case wn55 => rfl
          case ab55 => exact fun _ => rfl
          case yn55 => (intro w; go_simp; (try with_reducible rfl))
          (try simp only [Act.put, List.setIfInBounds_toArray, List.set_cons_zero, List.set_cons_succ])
          exact key3
          refine in_pos rfl ?_
          go_simp
          refine hK _ _ ?_
          clear hK K
          (try simp only [Act.put, List.setIfInBounds_toArray, List.set_cons_zero, List.set_cons_succ])
          refine wpAnyIn_take (i := 34) (oi := ?o56) (v := ?v56) rfl ?ho56 (by kernel_rfl) (by kernel_rfl) (by kernel_rfl) (fun _ _ _ h => h) ⟨Or.inl ⟨?wn56, ?yn56⟩, ?ab56⟩ ?rest56
          case ho56 => (simp only [List.getElem?_toArray, List.getElem?_cons_zero, List.getElem?_cons_succ]; rfl)
          case wn56 => rfl
          case ab56 => exact fun _ => rfl
          case yn56 => (intro w; go_simp; (try with_reducible rfl))
          (try simp only [Act.put, List.setIfInBounds_toArray, List.set_cons_zero, List.set_cons_succ])
          refine wpAnyIn_take (i := 35) (oi := ?o57) (v := ?v57) rfl ?ho57 (by kernel_rfl) (by kernel_rfl) (by kernel_rfl) (fun _ _ _ h => h) ⟨Or.inl ⟨?wn57, ?yn57⟩, ?ab57⟩ ?rest57
          case ho57 => (simp only [List.getElem?_toArray, List.getElem?_cons_zero, List.getElem?_cons_succ]; rfl)
          case wn57 => rfl
          case ab57 => exact fun _ => rfl
          case yn57 => (intro w; go_simp; (try with_reducible rfl))
          (try simp only [Act.put, List.setIfInBounds_toArray, List.set_cons_zero, List.set_cons_succ])
          refine wpAnyIn_ready (rs := [30]) (by kernel_rfl) (by simp) ?_
          refine AllReadyIn.cons (o := ?o58) ?ho58 (fun K hK => ?rest58) AllReadyIn.nil
          case ho58 => (simp only [List.getElem?_toArray, List.getElem?_cons_zero, List.getElem?_cons_succ]; rfl)
          refine in_pos rfl ?_
          go_simp
          refine hK _ _ ?_
          clear hK K
          (try simp only [Act.put, List.setIfInBounds_toArray, List.set_cons_zero, List.set_cons_succ])
          refine wpAnyIn_take (i := 31) (oi := ?o59) (v := ?v59) rfl ?ho59 (by kernel_rfl) (by kernel_rfl) (by kernel_rfl) (fun _ _ _ h => h) ⟨Or.inl ⟨?wn59, ?yn59⟩, ?ab59⟩ ?rest59
          case ho59 => (simp only [List.getElem?_toArray, List.getElem?_cons_zero, List.getElem?_cons_succ]; rfl)
          case wn59 => rfl
          case ab59 => exact fun _ => rfl
          case yn59 => (intro w; go_simp; (try with_reducible rfl))
          (try simp only [Act.put, List.setIfInBounds_toArray, List.set_cons_zero, List.set_cons_succ])
          refine wpAnyIn_take (i := 32) (oi := ?o60) (v := ?v60) rfl ?ho60 (by kernel_rfl) (by kernel_rfl) (by kernel_rfl) (fun _ _ _ h => h) ⟨Or.inl ⟨?wn60, ?yn60⟩, ?ab60⟩ ?rest60
          case ho60 => (simp only [List.getElem?_toArray, List.getElem?_cons_zero, List.getElem?_cons_succ]; rfl)
          case wn60 => rfl
          case ab60 => exact fun _ => rfl
          case yn60 => (intro w; go_simp; (try with_reducible rfl))
          (try simp only [Act.put, List.setIfInBounds_toArray, List.set_cons_zero, List.set_cons_succ])
          exact key3
        obtain ⟨fn3, tmps3, assign3, body3, hy3, hR3⟩ := hY [p0, p1, p2] p3 _ hJ3 (by simp)
        simp only [encM, p3, Nat.reduceMul, Nat.mul_zero, Nat.mul_one] at hy3
        refine wpAnyIn_ready (rs := [36]) (by kernel_rfl) (by simp) ?_
        refine AllReadyIn.cons (o := ?o61) ?ho61 (fun K hK => ?rest61) AllReadyIn.nil
        case ho61 => (simp only [List.getElem?_toArray, List.getElem?_cons_zero, List.getElem?_cons_succ]; rfl)
        refine in_pos rfl ?_
        gi_wp2_with fail
        refine hR3.mono ?_
        rintro e W4 (⟨rfl, hJ4, hk4⟩ | ⟨rfl, hx⟩)
        · (try dsimp only)
          replace hS1 := hk4.1.trans hS1
          replace hS2 := hk4.2.trans hS2
          refine hK _ _ ?_
          clear hK K
          (try simp only [Act.put, List.setIfInBounds_toArray, List.set_cons_zero, List.set_cons_succ])
          refine wpAnyIn_take (i := 37) (oi := ?o62) (v := ?v62) rfl ?ho62 (by kernel_rfl) (by kernel_rfl) (by kernel_rfl) (fun _ _ _ h => h) ⟨Or.inl ⟨?wn62, ?yn62⟩, ?ab62⟩ ?rest62
          case ho62 => (simp only [List.getElem?_toArray, List.getElem?_cons_zero, List.getElem?_cons_succ]; rfl)
          case wn62 => rfl
          case ab62 => exact fun _ => rfl
          case yn62 => (intro w; go_simp; (try with_reducible rfl))
          (try simp only [Act.put, List.setIfInBounds_toArray, List.set_cons_zero, List.set_cons_succ])
          refine wpAnyIn_done (by kernel_rfl) ?_ _
          refine NoPan.normal ?_
          gi_wp2_with fail
          go_end0
          exact ⟨⟨_, rfl⟩, .inl ⟨_, rfl, hJ4⟩⟩
        · (try dsimp only)
          refine hK _ _ ?_
          clear hK K
          (try simp only [Act.put, List.setIfInBounds_toArray, List.set_cons_zero, List.set_cons_succ])
          refine wpAnyIn_take (i := 37) (oi := ?o63) (v := ?v63) rfl ?ho63 (by kernel_rfl) (by kernel_rfl) (by kernel_rfl) (fun _ _ _ h => h) ⟨Or.inl ⟨?wn63, ?yn63⟩, ?ab63⟩ ?rest63
          case ho63 => (simp only [List.getElem?_toArray, List.getElem?_cons_zero, List.getElem?_cons_succ]; rfl)
          case wn63 => rfl
          case ab63 => exact fun _ => rfl
          case yn63 => (intro w; go_simp; (try with_reducible rfl))
          (try simp only [Act.put, List.setIfInBounds_toArray, List.set_cons_zero, List.set_cons_succ])
          refine wpAnyIn_done (by kernel_rfl) ?_ _
          refine NoPan.normal ?_
          gi_wp2_with fail
          go_end0
          exact ⟨⟨_, rfl⟩, .inr ⟨_, trivial, hx⟩⟩
      · (try dsimp only)
        refine hK _ _ ?_
        clear hK K
        (try simp only [Act.put, List.setIfInBounds_toArray, List.set_cons_zero, List.set_cons_succ])
        refine wpAnyIn_take (i := 27) (oi := ?o64) (v := ?v64) rfl ?ho64 (by kernel_rfl) (by kernel_rfl) (by kernel_rfl) (fun _ _ _ h => h) ⟨Or.inl ⟨?wn64, ?yn64⟩, ?ab64⟩ ?rest64
        case ho64 => (simp only [List.getElem?_toArray, List.getElem?_cons_zero, List.getElem?_cons_succ]; rfl)
        case wn64 => rfl
        case ab64 => exact fun _ => rfl
        case yn64 => (intro w; go_simp; (try with_reducible rfl))
        (try simp only [Act.put, List.setIfInBounds_toArray, List.set_cons_zero, List.set_cons_succ])
        refine wpAnyIn_take (i := 28) (oi := ?o65) (v := ?v65) rfl ?ho65 (by kernel_rfl) (by kernel_rfl) (by kernel_rfl) (fun _ _ _ h => h) ⟨Or.inl ⟨?wn65, ?yn65⟩, ?ab65⟩ ?rest65
        case ho65 => (simp only [List.getElem?_toArray, List.getElem?_cons_zero, List.getElem?_cons_succ]; rfl)
        case wn65 => rfl
        case ab65 => exact fun _ => rfl
        case yn65 => (intro w; go_simp; (try with_reducible rfl))
        (try simp only [Act.put, List.setIfInBounds_toArray, List.set_cons_zero, List.set_cons_succ])
        refine wpAnyIn_take (i := 29) (oi := ?o66) (v := undef) rfl ?ho66 (by kernel_rfl) (by kernel_rfl) (by kernel_rfl) (fun _ _ _ h => h) ⟨Or.inr ⟨?wn66, rfl⟩, ?ab66⟩ ?rest66
        case ho66 => (simp only [List.getElem?_toArray, List.getElem?_cons_zero, List.getElem?_cons_succ]; rfl)
        case wn66 => rfl
        case ab66 => exact fun _ => rfl
        (try simp only [Act.put, List.setIfInBounds_toArray, List.set_cons_zero, List.set_cons_succ])
        refine wpAnyIn_take (i := 30) (oi := ?o67) (v := undef) rfl ?ho67 (by kernel_rfl) (by kernel_rfl) (by kernel_rfl) (fun _ _ _ h => h) ⟨Or.inr ⟨?wn67, rfl⟩, ?ab67⟩ ?rest67
        case ho67 => (simp only [List.getElem?_toArray, List.getElem?_cons_zero, List.getElem?_cons_succ]; rfl)
        case wn67 => rfl
        case ab67 => exact fun _ => rfl
        (try simp only [Act.put, List.setIfInBounds_toArray, List.set_cons_zero, List.set_cons_succ])
        refine wpAnyIn_take (i := 31) (oi := ?o68) (v := undef) rfl ?ho68 (by kernel_rfl) (by kernel_rfl) (by kernel_rfl) (fun _ _ _ h => h) ⟨Or.inr ⟨?wn68, rfl⟩, ?ab68⟩ ?rest68
        case ho68 => (simp only [List.getElem?_toArray, List.getElem?_cons_zero, List.getElem?_cons_succ]; rfl)
        case wn68 => rfl
        case ab68 => exact fun _ => rfl
        (try simp only [Act.put, List.setIfInBounds_toArray, List.set_cons_zero, List.set_cons_succ])
        refine wpAnyIn_take (i := 32) (oi := ?o69) (v := undef) rfl ?ho69 (by kernel_rfl) (by kernel_rfl) (by kernel_rfl) (fun _ _ _ h => h) ⟨Or.inr ⟨?wn69, rfl⟩, ?ab69⟩ ?rest69
        case ho69 => (simp only [List.getElem?_toArray, List.getElem?_cons_zero, List.getElem?_cons_succ]; rfl)
        case wn69 => rfl
        case ab69 => exact fun _ => rfl
        (try simp only [Act.put, List.setIfInBounds_toArray, List.set_cons_zero, List.set_cons_succ])
        refine wpAnyIn_take (i := 33) (oi := ?o70) (v := undef) rfl ?ho70 (by kernel_rfl) (by kernel_rfl) (by kernel_rfl) (fun _ _ _ h => h) ⟨Or.inr ⟨?wn70, rfl⟩, ?ab70⟩ ?rest70
        case ho70 => (simp only [List.getElem?_toArray, List.getElem?_cons_zero, List.getElem?_cons_succ]; rfl)
        case wn70 => rfl
        case ab70 => exact fun _ => rfl
        (try simp only [Act.put, List.setIfInBounds_toArray, List.set_cons_zero, List.set_cons_succ])
        refine wpAnyIn_take (i := 34) (oi := ?o71) (v := undef) rfl ?ho71 (by kernel_rfl) (by kernel_rfl) (by kernel_rfl) (fun _ _ _ h => h) ⟨Or.inr ⟨?wn71, rfl⟩, ?ab71⟩ ?rest71
        case ho71 => (simp only [List.getElem?_toArray, List.getElem?_cons_zero, List.getElem?_cons_succ]; rfl)
        case wn71 => rfl
        case ab71 => exact fun _ => rfl
        (try simp only [Act.put, List.setIfInBounds_toArray, List.set_cons_zero, List.set_cons_succ])
        refine wpAnyIn_take (i := 35) (oi := ?o72) (v := undef) rfl ?ho72 (by kernel_rfl) (by kernel_rfl) (by kernel_rfl) (fun _ _ _ h => h) ⟨Or.inr ⟨?wn72, rfl⟩, ?ab72⟩ ?rest72
        case ho72 => (simp only [List.getElem?_toArray, List.getElem?_cons_zero, List.getElem?_cons_succ]; rfl)
        case wn72 => rfl
        case ab72 => exact fun _ => rfl
        (try simp only [Act.put, List.setIfInBounds_toArray, List.set_cons_zero, List.set_cons_succ])
        refine wpAnyIn_take (i := 36) (oi := ?o73) (v := undef) rfl ?ho73 (by kernel_rfl) (by kernel_rfl) (by kernel_rfl) (fun _ _ _ h => h) ⟨Or.inr ⟨?wn73, rfl⟩, ?ab73⟩ ?rest73
        case ho73 => (simp only [List.getElem?_toArray, List.getElem?_cons_zero, List.getElem?_cons_succ]; rfl)
        case wn73 => rfl
        case ab73 => exact fun _ => rfl
        (try simp only [Act.put, List.setIfInBounds_toArray, List.set_cons_zero, List.set_cons_succ])
        refine wpAnyIn_take (i := 37) (oi := ?o74) (v := ?v74) rfl ?ho74 (by kernel_rfl) (by kernel_rfl) (by kernel_rfl) (fun _ _ _ h => h) ⟨Or.inl ⟨?wn74, ?yn74⟩, ?ab74⟩ ?rest74
        case ho74 => (simp only [List.getElem?_toArray, List.getElem?_cons_zero, List.getElem?_cons_succ]; rfl)
        case wn74 => rfl
        case ab74 => exact fun _ => rfl
        case yn74 => (intro w; go_simp; (try with_reducible rfl))
        (try simp only [Act.put, List.setIfInBounds_toArray, List.set_cons_zero, List.set_cons_succ])
        refine wpAnyIn_done (by kernel_rfl) ?_ _
        refine NoPan.normal ?_
        gi_wp2_with fail
        go_end0
        exact ⟨⟨_, rfl⟩, .inr ⟨_, trivial, hx⟩⟩
    · (try dsimp only)
      refine hK _ _ ?_
      clear hK K
      (try simp only [Act.put, List.setIfInBounds_toArray, List.set_cons_zero, List.set_cons_succ])
      refine wpAnyIn_take (i := 17) (oi := ?o75) (v := ?v75) rfl ?ho75 (by kernel_rfl) (by kernel_rfl) (by kernel_rfl) (fun _ _ _ h => h) ⟨Or.inl ⟨?wn75, ?yn75⟩, ?ab75⟩ ?rest75
      case ho75 => (simp only [List.getElem?_toArray, List.getElem?_cons_zero, List.getElem?_cons_succ]; rfl)
      case wn75 => rfl
      case ab75 => exact fun _ => rfl
      case yn75 => (intro w; go_simp; (try with_reducible rfl))
      (try simp only [Act.put, List.setIfInBounds_toArray, List.set_cons_zero, List.set_cons_succ])
      refine wpAnyIn_take (i := 18) (oi := ?o76) (v := ?v76) rfl ?ho76 (by kernel_rfl) (by kernel_rfl) (by kernel_rfl) (fun _ _ _ h => h) ⟨Or.inl ⟨?wn76, ?yn76⟩, ?ab76⟩ ?rest76
      case ho76 => (simp only [List.getElem?_toArray, List.getElem?_cons_zero, List.getElem?_cons_succ]; rfl)
      case wn76 => rfl
      case ab76 => exact fun _ => rfl
      case yn76 => (intro w; go_simp; (try with_reducible rfl))
      (try simp only [Act.put, List.setIfInBounds_toArray, List.set_cons_zero, List.set_cons_succ])
      refine wpAnyIn_take (i := 19) (oi := ?o77) (v := undef) rfl ?ho77 (by kernel_rfl) (by kernel_rfl) (by kernel_rfl) (fun _ _ _ h => h) ⟨Or.inr ⟨?wn77, rfl⟩, ?ab77⟩ ?rest77
      case ho77 => (simp only [List.getElem?_toArray, List.getElem?_cons_zero, List.getElem?_cons_succ]; rfl)
      case wn77 => rfl
      case ab77 => exact fun _ => rfl
      (try simp only [Act.put, List.setIfInBounds_toArray, List.set_cons_zero, List.set_cons_succ])
      refine wpAnyIn_take (i := 20) (oi := ?o78) (v := undef) rfl ?ho78 (by kernel_rfl) (by kernel_rfl) (by kernel_rfl) (fun _ _ _ h => h) ⟨Or.inr ⟨?wn78, rfl⟩, ?ab78⟩ ?rest78
      case ho78 => (simp only [List.getElem?_toArray, List.getElem?_cons_zero, List.getElem?_cons_succ]; rfl)
      case wn78 => rfl
      case ab78 => exact fun _ => rfl
      (try simp only [Act.put, List.setIfInBounds_toArray, List.set_cons_zero, List.set_cons_succ])
      refine wpAnyIn_take (i := 21) (oi := ?o79) (v := undef) rfl ?ho79 (by kernel_rfl) (by kernel_rfl) (by kernel_rfl) (fun _ _ _ h => h) ⟨Or.inr ⟨?wn79, rfl⟩, ?ab79⟩ ?rest79
      case ho79 => (simp only [List.getElem?_toArray, List.getElem?_cons_zero, List.getElem?_cons_succ]; rfl)
      case wn79 => rfl
      case ab79 => exact fun _ => rfl
      (try simp only [Act.put, List.setIfInBounds_toArray, List.set_cons_zero, List.set_cons_succ])
      refine wpAnyIn_take (i := 22) (oi := ?o80) (v := undef) rfl ?ho80 (by kernel_rfl) (by kernel_rfl) (by kernel_rfl) (fun _ _ _ h => h) ⟨Or.inr ⟨?wn80, rfl⟩, ?ab80⟩ ?rest80
      case ho80 => (simp only [List.getElem?_toArray, List.getElem?_cons_zero, List.getElem?_cons_succ]; rfl)
      case wn80 => rfl
      case ab80 => exact fun _ => rfl
      (try simp only [Act.put, List.setIfInBounds_toArray, List.set_cons_zero, List.set_cons_succ])
      refine wpAnyIn_take (i := 23) (oi := ?o81) (v := undef) rfl ?ho81 (by kernel_rfl) (by kernel_rfl) (by kernel_rfl) (fun _ _ _ h => h) ⟨Or.inr ⟨?wn81, rfl⟩, ?ab81⟩ ?rest81
      case ho81 => (simp only [List.getElem?_toArray, List.getElem?_cons_zero, List.getElem?_cons_succ]; rfl)
      case wn81 => rfl
      case ab81 => exact fun _ => rfl
      (try simp only [Act.put, List.setIfInBounds_toArray, List.set_cons_zero, List.set_cons_succ])
      refine wpAnyIn_take (i := 24) (oi := ?o82) (v := undef) rfl ?ho82 (by kernel_rfl) (by kernel_rfl) (by kernel_rfl) (fun _ _ _ h => h) ⟨Or.inr ⟨?wn82, rfl⟩, ?ab82⟩ ?rest82
      case ho82 => (simp only [List.getElem?_toArray, List.getElem?_cons_zero, List.getElem?_cons_succ]; rfl)
      case wn82 => rfl
      case ab82 => exact fun _ => rfl
      (try simp only [Act.put, List.setIfInBounds_toArray, List.set_cons_zero, List.set_cons_succ])
      refine wpAnyIn_take (i := 25) (oi := ?o83) (v := undef) rfl ?ho83 (by kernel_rfl) (by kernel_rfl) (by kernel_rfl) (fun _ _ _ h => h) ⟨Or.inr ⟨?wn83, rfl⟩, ?ab83⟩ ?rest83
      case ho83 => (simp only [List.getElem?_toArray, List.getElem?_cons_zero, List.getElem?_cons_succ]; rfl)
      case wn83 => rfl
      case ab83 => exact fun _ => rfl
      (try simp only [Act.put, List.setIfInBounds_toArray, List.set_cons_zero, List.set_cons_succ])
      refine wpAnyIn_take (i := 26) (oi := ?o84) (v := undef) rfl ?ho84 (by kernel_rfl) (by kernel_rfl) (by kernel_rfl) (fun _ _ _ h => h) ⟨Or.inr ⟨?wn84, rfl⟩, ?ab84⟩ ?rest84
      case ho84 => (simp only [List.getElem?_toArray, List.getElem?_cons_zero, List.getElem?_cons_succ]; rfl)
      case wn84 => rfl
      case ab84 => exact fun _ => rfl
      (try simp only [Act.put, List.setIfInBounds_toArray, List.set_cons_zero, List.set_cons_succ])
      refine wpAnyIn_take (i := 27) (oi := ?o85) (v := ?v85) rfl ?ho85 (by kernel_rfl) (by kernel_rfl) (by kernel_rfl) (fun _ _ _ h => h) ⟨Or.inl ⟨?wn85, ?yn85⟩, ?ab85⟩ ?rest85
      case ho85 => (simp only [List.getElem?_toArray, List.getElem?_cons_zero, List.getElem?_cons_succ]; rfl)
      case wn85 => rfl
      case ab85 => exact fun _ => rfl
      case yn85 => (intro w; go_simp; (try with_reducible rfl))
      (try simp only [Act.put, List.setIfInBounds_toArray, List.set_cons_zero, List.set_cons_succ])
      refine wpAnyIn_take (i := 28) (oi := ?o86) (v := ?v86) rfl ?ho86 (by kernel_rfl) (by kernel_rfl) (by kernel_rfl) (fun _ _ _ h => h) ⟨Or.inl ⟨?wn86, ?yn86⟩, ?ab86⟩ ?rest86
      case ho86 => (simp only [List.getElem?_toArray, List.getElem?_cons_zero, List.getElem?_cons_succ]; rfl)
      case wn86 => rfl
      case ab86 => exact fun _ => rfl
      case yn86 => (intro w; go_simp; (try with_reducible rfl))
      (try simp only [Act.put, List.setIfInBounds_toArray, List.set_cons_zero, List.set_cons_succ])
      refine wpAnyIn_take (i := 29) (oi := ?o87) (v := undef) rfl ?ho87 (by kernel_rfl) (by kernel_rfl) (by kernel_rfl) (fun _ _ _ h => h) ⟨Or.inr ⟨?wn87, rfl⟩, ?ab87⟩ ?rest87
      case ho87 => (simp only [List.getElem?_toArray, List.getElem?_cons_zero, List.getElem?_cons_succ]; rfl)
      case wn87 => rfl
      case ab87 => exact fun _ => rfl
      (try simp only [Act.put, List.setIfInBounds_toArray, List.set_cons_zero, List.set_cons_succ])
      refine wpAnyIn_take (i := 30) (oi := ?o88) (v := undef) rfl ?ho88 (by kernel_rfl) (by kernel_rfl) (by kernel_rfl) (fun _ _ _ h => h) ⟨Or.inr ⟨?wn88, rfl⟩, ?ab88⟩ ?rest88
      case ho88 => (simp only [List.getElem?_toArray, List.getElem?_cons_zero, List.getElem?_cons_succ]; rfl)
      case wn88 => rfl
      case ab88 => exact fun _ => rfl
      (try simp only [Act.put, List.setIfInBounds_toArray, List.set_cons_zero, List.set_cons_succ])
      refine wpAnyIn_take (i := 31) (oi := ?o89) (v := undef) rfl ?ho89 (by kernel_rfl) (by kernel_rfl) (by kernel_rfl) (fun _ _ _ h => h) ⟨Or.inr ⟨?wn89, rfl⟩, ?ab89⟩ ?rest89
      case ho89 => (simp only [List.getElem?_toArray, List.getElem?_cons_zero, List.getElem?_cons_succ]; rfl)
      case wn89 => rfl
      case ab89 => exact fun _ => rfl
      (try simp only [Act.put, List.setIfInBounds_toArray, List.set_cons_zero, List.set_cons_succ])
      refine wpAnyIn_take (i := 32) (oi := ?o90) (v := undef) rfl ?ho90 (by kernel_rfl) (by kernel_rfl) (by kernel_rfl) (fun _ _ _ h => h) ⟨Or.inr ⟨?wn90, rfl⟩, ?ab90⟩ ?rest90
      case ho90 => (simp only [List.getElem?_toArray, List.getElem?_cons_zero, List.getElem?_cons_succ]; rfl)
      case wn90 => rfl
      case ab90 => exact fun _ => rfl
      (try simp only [Act.put, List.setIfInBounds_toArray, List.set_cons_zero, List.set_cons_succ])
      refine wpAnyIn_take (i := 33) (oi := ?o91) (v := undef) rfl ?ho91 (by kernel_rfl) (by kernel_rfl) (by kernel_rfl) (fun _ _ _ h => h) ⟨Or.inr ⟨?wn91, rfl⟩, ?ab91⟩ ?rest91
      case ho91 => (simp only [List.getElem?_toArray, List.getElem?_cons_zero, List.getElem?_cons_succ]; rfl)
      case wn91 => rfl
      case ab91 => exact fun _ => rfl
      (try simp only [Act.put, List.setIfInBounds_toArray, List.set_cons_zero, List.set_cons_succ])
      refine wpAnyIn_take (i := 34) (oi := ?o92) (v := undef) rfl ?ho92 (by kernel_rfl) (by kernel_rfl) (by kernel_rfl) (fun _ _ _ h => h) ⟨Or.inr ⟨?wn92, rfl⟩, ?ab92⟩ ?rest92
      case ho92 => (simp only [List.getElem?_toArray, List.getElem?_cons_zero, List.getElem?_cons_succ]; rfl)
      case wn92 => rfl
      case ab92 => exact fun _ => rfl
      (try simp only [Act.put, List.setIfInBounds_toArray, List.set_cons_zero, List.set_cons_succ])
      refine wpAnyIn_take (i := 35) (oi := ?o93) (v := undef) rfl ?ho93 (by kernel_rfl) (by kernel_rfl) (by kernel_rfl) (fun _ _ _ h => h) ⟨Or.inr ⟨?wn93, rfl⟩, ?ab93⟩ ?rest93
      case ho93 => (simp only [List.getElem?_toArray, List.getElem?_cons_zero, List.getElem?_cons_succ]; rfl)
      case wn93 => rfl
      case ab93 => exact fun _ => rfl
      (try simp only [Act.put, List.setIfInBounds_toArray, List.set_cons_zero, List.set_cons_succ])
      refine wpAnyIn_take (i := 36) (oi := ?o94) (v := undef) rfl ?ho94 (by kernel_rfl) (by kernel_rfl) (by kernel_rfl) (fun _ _ _ h => h) ⟨Or.inr ⟨?wn94, rfl⟩, ?ab94⟩ ?rest94
      case ho94 => (simp only [List.getElem?_toArray, List.getElem?_cons_zero, List.getElem?_cons_succ]; rfl)
      case wn94 => rfl
      case ab94 => exact fun _ => rfl
      (try simp only [Act.put, List.setIfInBounds_toArray, List.set_cons_zero, List.set_cons_succ])
      refine wpAnyIn_take (i := 37) (oi := ?o95) (v := ?v95) rfl ?ho95 (by kernel_rfl) (by kernel_rfl) (by kernel_rfl) (fun _ _ _ h => h) ⟨Or.inl ⟨?wn95, ?yn95⟩, ?ab95⟩ ?rest95
      case ho95 => (simp only [List.getElem?_toArray, List.getElem?_cons_zero, List.getElem?_cons_succ]; rfl)
      case wn95 => rfl
      case ab95 => exact fun _ => rfl
      case yn95 => (intro w; go_simp; (try with_reducible rfl))
      (try simp only [Act.put, List.setIfInBounds_toArray, List.set_cons_zero, List.set_cons_succ])
      refine wpAnyIn_done (by kernel_rfl) ?_ _
      refine NoPan.normal ?_
      gi_wp2_with fail
      go_end0
      exact ⟨⟨_, rfl⟩, .inr ⟨_, trivial, hx⟩⟩
  · (try dsimp only)
    refine hK _ _ ?_
    clear hK K
    (try simp only [Act.put, List.setIfInBounds_toArray, List.set_cons_zero, List.set_cons_succ])
    refine wpAnyIn_take (i := 8) (oi := ?o96) (v := ?v96) rfl ?ho96 (by kernel_rfl) (by kernel_rfl) (by kernel_rfl) (fun _ _ _ h => h) ⟨Or.inl ⟨?wn96, ?yn96⟩, ?ab96⟩ ?rest96
    case ho96 => (simp only [List.getElem?_toArray, List.getElem?_cons_zero, List.getElem?_cons_succ]; rfl)
    case wn96 => rfl
    case ab96 => exact fun _ => rfl
    case yn96 => (intro w; go_simp; (try with_reducible rfl))
    (try simp only [Act.put, List.setIfInBounds_toArray, List.set_cons_zero, List.set_cons_succ])
    refine wpAnyIn_take (i := 9) (oi := ?o97) (v := undef) rfl ?ho97 (by kernel_rfl) (by kernel_rfl) (by kernel_rfl) (fun _ _ _ h => h) ⟨Or.inr ⟨?wn97, rfl⟩, ?ab97⟩ ?rest97
    case ho97 => (simp only [List.getElem?_toArray, List.getElem?_cons_zero, List.getElem?_cons_succ]; rfl)
    case wn97 => rfl
    case ab97 => exact fun _ => rfl
    (try simp only [Act.put, List.setIfInBounds_toArray, List.set_cons_zero, List.set_cons_succ])
    refine wpAnyIn_take (i := 10) (oi := ?o98) (v := undef) rfl ?ho98 (by kernel_rfl) (by kernel_rfl) (by kernel_rfl) (fun _ _ _ h => h) ⟨Or.inr ⟨?wn98, rfl⟩, ?ab98⟩ ?rest98
    case ho98 => (simp only [List.getElem?_toArray, List.getElem?_cons_zero, List.getElem?_cons_succ]; rfl)
    case wn98 => rfl
    case ab98 => exact fun _ => rfl
    (try simp only [Act.put, List.setIfInBounds_toArray, List.set_cons_zero, List.set_cons_succ])
    refine wpAnyIn_take (i := 11) (oi := ?o99) (v := undef) rfl ?ho99 (by kernel_rfl) (by kernel_rfl) (by kernel_rfl) (fun _ _ _ h => h) ⟨Or.inr ⟨?wn99, rfl⟩, ?ab99⟩ ?rest99
    case ho99 => (simp only [List.getElem?_toArray, List.getElem?_cons_zero, List.getElem?_cons_succ]; rfl)
    case wn99 => rfl
    case ab99 => exact fun _ => rfl
    (try simp only [Act.put, List.setIfInBounds_toArray, List.set_cons_zero, List.set_cons_succ])
    refine wpAnyIn_take (i := 12) (oi := ?o100) (v := undef) rfl ?ho100 (by kernel_rfl) (by kernel_rfl) (by kernel_rfl) (fun _ _ _ h => h) ⟨Or.inr ⟨?wn100, rfl⟩, ?ab100⟩ ?rest100
    case ho100 => (simp only [List.getElem?_toArray, List.getElem?_cons_zero, List.getElem?_cons_succ]; rfl)
    case wn100 => rfl
    case ab100 => exact fun _ => rfl
    (try simp only [Act.put, List.setIfInBounds_toArray, List.set_cons_zero, List.set_cons_succ])
    refine wpAnyIn_take (i := 13) (oi := ?o101) (v := undef) rfl ?ho101 (by kernel_rfl) (by kernel_rfl) (by kernel_rfl) (fun _ _ _ h => h) ⟨Or.inr ⟨?wn101, rfl⟩, ?ab101⟩ ?rest101
    case ho101 => (simp only [List.getElem?_toArray, List.getElem?_cons_zero, List.getElem?_cons_succ]; rfl)
    case wn101 => rfl
    case ab101 => exact fun _ => rfl
    (try simp only [Act.put, List.setIfInBounds_toArray, List.set_cons_zero, List.set_cons_succ])
    refine wpAnyIn_take (i := 14) (oi := ?o102) (v := undef) rfl ?ho102 (by kernel_rfl) (by kernel_rfl) (by kernel_rfl) (fun _ _ _ h => h) ⟨Or.inr ⟨?wn102, rfl⟩, ?ab102⟩ ?rest102
    case ho102 => (simp only [List.getElem?_toArray, List.getElem?_cons_zero, List.getElem?_cons_succ]; rfl)
    case wn102 => rfl
    case ab102 => exact fun _ => rfl
    (try simp only [Act.put, List.setIfInBounds_toArray, List.set_cons_zero, List.set_cons_succ])
    refine wpAnyIn_take (i := 15) (oi := ?o103) (v := undef) rfl ?ho103 (by kernel_rfl) (by kernel_rfl) (by kernel_rfl) (fun _ _ _ h => h) ⟨Or.inr ⟨?wn103, rfl⟩, ?ab103⟩ ?rest103
    case ho103 => (simp only [List.getElem?_toArray, List.getElem?_cons_zero, List.getElem?_cons_succ]; rfl)
    case wn103 => rfl
    case ab103 => exact fun _ => rfl
    (try simp only [Act.put, List.setIfInBounds_toArray, List.set_cons_zero, List.set_cons_succ])
    refine wpAnyIn_take (i := 16) (oi := ?o104) (v := undef) rfl ?ho104 (by kernel_rfl) (by kernel_rfl) (by kernel_rfl) (fun _ _ _ h => h) ⟨Or.inr ⟨?wn104, rfl⟩, ?ab104⟩ ?rest104
    case ho104 => (simp only [List.getElem?_toArray, List.getElem?_cons_zero, List.getElem?_cons_succ]; rfl)
    case wn104 => rfl
    case ab104 => exact fun _ => rfl
    (try simp only [Act.put, List.setIfInBounds_toArray, List.set_cons_zero, List.set_cons_succ])
    refine wpAnyIn_take (i := 17) (oi := ?o105) (v := ?v105) rfl ?ho105 (by kernel_rfl) (by kernel_rfl) (by kernel_rfl) (fun _ _ _ h => h) ⟨Or.inl ⟨?wn105, ?yn105⟩, ?ab105⟩ ?rest105
    case ho105 => (simp only [List.getElem?_toArray, List.getElem?_cons_zero, List.getElem?_cons_succ]; rfl)
    case wn105 => rfl
    case ab105 => exact fun _ => rfl
    case yn105 => (intro w; go_simp; (try with_reducible rfl))
    (try simp only [Act.put, List.setIfInBounds_toArray, List.set_cons_zero, List.set_cons_succ])
    refine wpAnyIn_take (i := 18) (oi := ?o106) (v := ?v106) rfl ?ho106 (by kernel_rfl) (by kernel_rfl) (by kernel_rfl) (fun _ _ _ h => h) ⟨Or.inl ⟨?wn106, ?yn106⟩, ?ab106⟩ ?rest106
    case ho106 => (simp only [List.getElem?_toArray, List.getElem?_cons_zero, List.getElem?_cons_succ]; rfl)
    case wn106 => rfl
    case ab106 => exact fun _ => rfl
    case yn106 => (intro w; go_simp; (try with_reducible rfl))
    (try simp only [Act.put, List.setIfInBounds_toArray, List.set_cons_zero, List.set_cons_succ])
    refine wpAnyIn_take (i := 19) (oi := ?o107) (v := undef) rfl ?ho107 (by kernel_rfl) (by kernel_rfl) (by kernel_rfl) (fun _ _ _ h => h) ⟨Or.inr ⟨?wn107, rfl⟩, ?ab107⟩ ?rest107
    case ho107 => (simp only [List.getElem?_toArray, List.getElem?_cons_zero, List.getElem?_cons_succ]; rfl)
    case wn107 => rfl
    case ab107 => exact fun _ => rfl
    (try simp only [Act.put, List.setIfInBounds_toArray, List.set_cons_zero, List.set_cons_succ])
    refine wpAnyIn_take (i := 20) (oi := ?o108) (v := undef) rfl ?ho108 (by kernel_rfl) (by kernel_rfl) (by kernel_rfl) (fun _ _ _ h => h) ⟨Or.inr ⟨?wn108, rfl⟩, ?ab108⟩ ?rest108
    case ho108 => (simp only [List.getElem?_toArray, List.getElem?_cons_zero, List.getElem?_cons_succ]; rfl)
    case wn108 => rfl
    case ab108 => exact fun _ => rfl
    (try simp only [Act.put, List.setIfInBounds_toArray, List.set_cons_zero, List.set_cons_succ])
    refine wpAnyIn_take (i := 21) (oi := ?o109) (v := undef) rfl ?ho109 (by kernel_rfl) (by kernel_rfl) (by kernel_rfl) (fun _ _ _ h => h) ⟨Or.inr ⟨?wn109, rfl⟩, ?ab109⟩ ?rest109
    case ho109 => (simp only [List.getElem?_toArray, List.getElem?_cons_zero, List.getElem?_cons_succ]; rfl)
    case wn109 => rfl
    case ab109 => exact fun _ => rfl
    (try simp only [Act.put, List.setIfInBounds_toArray, List.set_cons_zero, List.set_cons_succ])
    refine wpAnyIn_take (i := 22) (oi := ?o110) (v := undef) rfl ?ho110 (by kernel_rfl) (by kernel_rfl) (by kernel_rfl) (fun _ _ _ h => h) ⟨Or.inr ⟨?wn110, rfl⟩, ?ab110⟩ ?rest110
    case ho110 => (simp only [List.getElem?_toArray, List.getElem?_cons_zero, List.getElem?_cons_succ]; rfl)
    case wn110 => rfl
    case ab110 => exact fun _ => rfl
    (try simp only [Act.put, List.setIfInBounds_toArray, List.set_cons_zero, List.set_cons_succ])
    refine wpAnyIn_take (i := 23) (oi := ?o111) (v := undef) rfl ?ho111 (by kernel_rfl) (by kernel_rfl) (by kernel_rfl) (fun _ _ _ h => h) ⟨Or.inr ⟨?wn111, rfl⟩, ?ab111⟩ ?rest111
    case ho111 => (simp only [List.getElem?_toArray, List.getElem?_cons_zero, List.getElem?_cons_succ]; rfl)
    case wn111 => rfl
    case ab111 => exact fun _ => rfl
    (try simp only [Act.put, List.setIfInBounds_toArray, List.set_cons_zero, List.set_cons_succ])
    refine wpAnyIn_take (i := 24) (oi := ?o112) (v := undef) rfl ?ho112 (by kernel_rfl) (by kernel_rfl) (by kernel_rfl) (fun _ _ _ h => h) ⟨Or.inr ⟨?wn112, rfl⟩, ?ab112⟩ ?rest112
    case ho112 => (simp only [List.getElem?_toArray, List.getElem?_cons_zero, List.getElem?_cons_succ]; rfl)
    case wn112 => rfl
    case ab112 => exact fun _ => rfl
    (try simp only [Act.put, List.setIfInBounds_toArray, List.set_cons_zero, List.set_cons_succ])
    refine wpAnyIn_take (i := 25) (oi := ?o113) (v := undef) rfl ?ho113 (by kernel_rfl) (by kernel_rfl) (by kernel_rfl) (fun _ _ _ h => h) ⟨Or.inr ⟨?wn113, rfl⟩, ?ab113⟩ ?rest113
    case ho113 => (simp only [List.getElem?_toArray, List.getElem?_cons_zero, List.getElem?_cons_succ]; rfl)
    case wn113 => rfl
    case ab113 => exact fun _ => rfl
    (try simp only [Act.put, List.setIfInBounds_toArray, List.set_cons_zero, List.set_cons_succ])
    refine wpAnyIn_take (i := 26) (oi := ?o114) (v := undef) rfl ?ho114 (by kernel_rfl) (by kernel_rfl) (by kernel_rfl) (fun _ _ _ h => h) ⟨Or.inr ⟨?wn114, rfl⟩, ?ab114⟩ ?rest114
    case ho114 => (simp only [List.getElem?_toArray, List.getElem?_cons_zero, List.getElem?_cons_succ]; rfl)
    case wn114 => rfl
    case ab114 => exact fun _ => rfl
    (try simp only [Act.put, List.setIfInBounds_toArray, List.set_cons_zero, List.set_cons_succ])
    refine wpAnyIn_take (i := 27) (oi := ?o115) (v := ?v115) rfl ?ho115 (by kernel_rfl) (by kernel_rfl) (by kernel_rfl) (fun _ _ _ h => h) ⟨Or.inl ⟨?wn115, ?yn115⟩, ?ab115⟩ ?rest115
    case ho115 => (simp only [List.getElem?_toArray, List.getElem?_cons_zero, List.getElem?_cons_succ]; rfl)
    case wn115 => rfl
    case ab115 => exact fun _ => rfl
    case yn115 => (intro w; go_simp; (try with_reducible rfl))
    (try simp only [Act.put, List.setIfInBounds_toArray, List.set_cons_zero, List.set_cons_succ])
    refine wpAnyIn_take (i := 28) (oi := ?o116) (v := ?v116) rfl ?ho116 (by kernel_rfl) (by kernel_rfl) (by kernel_rfl) (fun _ _ _ h => h) ⟨Or.inl ⟨?wn116, ?yn116⟩, ?ab116⟩ ?rest116
    case ho116 => (simp only [List.getElem?_toArray, List.getElem?_cons_zero, List.getElem?_cons_succ]; rfl)
    case wn116 => rfl
    case ab116 => exact fun _ => rfl
    case yn116 => (intro w; go_simp; (try with_reducible rfl))
    (try simp only [Act.put, List.setIfInBounds_toArray, List.set_cons_zero, List.set_cons_succ])
    refine wpAnyIn_take (i := 29) (oi := ?o117) (v := undef) rfl ?ho117 (by kernel_rfl) (by kernel_rfl) (by kernel_rfl) (fun _ _ _ h => h) ⟨Or.inr ⟨?wn117, rfl⟩, ?ab117⟩ ?rest117
    case ho117 => (simp only [List.getElem?_toArray, List.getElem?_cons_zero, List.getElem?_cons_succ]; rfl)
    case wn117 => rfl
    case ab117 => exact fun _ => rfl
    (try simp only [Act.put, List.setIfInBounds_toArray, List.set_cons_zero, List.set_cons_succ])
    refine wpAnyIn_take (i := 30) (oi := ?o118) (v := undef) rfl ?ho118 (by kernel_rfl) (by kernel_rfl) (by kernel_rfl) (fun _ _ _ h => h) ⟨Or.inr ⟨?wn118, rfl⟩, ?ab118⟩ ?rest118
    case ho118 => (simp only [List.getElem?_toArray, List.getElem?_cons_zero, List.getElem?_cons_succ]; rfl)
    case wn118 => rfl
    case ab118 => exact fun _ => rfl
    (try simp only [Act.put, List.setIfInBounds_toArray, List.set_cons_zero, List.set_cons_succ])
    refine wpAnyIn_take (i := 31) (oi := ?o119) (v := undef) rfl ?ho119 (by kernel_rfl) (by kernel_rfl) (by kernel_rfl) (fun _ _ _ h => h) ⟨Or.inr ⟨?wn119, rfl⟩, ?ab119⟩ ?rest119
    case ho119 => (simp only [List.getElem?_toArray, List.getElem?_cons_zero, List.getElem?_cons_succ]; rfl)
    case wn119 => rfl
    case ab119 => exact fun _ => rfl
    (try simp only [Act.put, List.setIfInBounds_toArray, List.set_cons_zero, List.set_cons_succ])
    refine wpAnyIn_take (i := 32) (oi := ?o120) (v := undef) rfl ?ho120 (by kernel_rfl) (by kernel_rfl) (by kernel_rfl) (fun _ _ _ h => h) ⟨Or.inr ⟨?wn120, rfl⟩, ?ab120⟩ ?rest120
    case ho120 => (simp only [List.getElem?_toArray, List.getElem?_cons_zero, List.getElem?_cons_succ]; rfl)
    case wn120 => rfl
    case ab120 => exact fun _ => rfl
    (try simp only [Act.put, List.setIfInBounds_toArray, List.set_cons_zero, List.set_cons_succ])
    refine wpAnyIn_take (i := 33) (oi := ?o121) (v := undef) rfl ?ho121 (by kernel_rfl) (by kernel_rfl) (by kernel_rfl) (fun _ _ _ h => h) ⟨Or.inr ⟨?wn121, rfl⟩, ?ab121⟩ ?rest121
    case ho121 => (simp only [List.getElem?_toArray, List.getElem?_cons_zero, List.getElem?_cons_succ]; rfl)
    case wn121 => rfl
    case ab121 => exact fun _ => rfl
    (try simp only [Act.put, List.setIfInBounds_toArray, List.set_cons_zero, List.set_cons_succ])
    refine wpAnyIn_take (i := 34) (oi := ?o122) (v := undef) rfl ?ho122 (by kernel_rfl) (by kernel_rfl) (by kernel_rfl) (fun _ _ _ h => h) ⟨Or.inr ⟨?wn122, rfl⟩, ?ab122⟩ ?rest122
    case ho122 => (simp only [List.getElem?_toArray, List.getElem?_cons_zero, List.getElem?_cons_succ]; rfl)
    case wn122 => rfl
    case ab122 => exact fun _ => rfl
    (try simp only [Act.put, List.setIfInBounds_toArray, List.set_cons_zero, List.set_cons_succ])
    refine wpAnyIn_take (i := 35) (oi := ?o123) (v := undef) rfl ?ho123 (by kernel_rfl) (by kernel_rfl) (by kernel_rfl) (fun _ _ _ h => h) ⟨Or.inr ⟨?wn123, rfl⟩, ?ab123⟩ ?rest123
    case ho123 => (simp only [List.getElem?_toArray, List.getElem?_cons_zero, List.getElem?_cons_succ]; rfl)
    case wn123 => rfl
    case ab123 => exact fun _ => rfl
    (try simp only [Act.put, List.setIfInBounds_toArray, List.set_cons_zero, List.set_cons_succ])
    refine wpAnyIn_take (i := 36) (oi := ?o124) (v := undef) rfl ?ho124 (by kernel_rfl) (by kernel_rfl) (by kernel_rfl) (fun _ _ _ h => h) ⟨Or.inr ⟨?wn124, rfl⟩, ?ab124⟩ ?rest124
    case ho124 => (simp only [List.getElem?_toArray, List.getElem?_cons_zero, List.getElem?_cons_succ]; rfl)
    case wn124 => rfl
    case ab124 => exact fun _ => rfl
    (try simp only [Act.put, List.setIfInBounds_toArray, List.set_cons_zero, List.set_cons_succ])
    refine wpAnyIn_take (i := 37) (oi := ?o125) (v := ?v125) rfl ?ho125 (by kernel_rfl) (by kernel_rfl) (by kernel_rfl) (fun _ _ _ h => h) ⟨Or.inl ⟨?wn125, ?yn125⟩, ?ab125⟩ ?rest125
    case ho125 => (simp only [List.getElem?_toArray, List.getElem?_cons_zero, List.getElem?_cons_succ]; rfl)
    case wn125 => rfl
    case ab125 => exact fun _ => rfl
    case yn125 => (intro w; go_simp; (try with_reducible rfl))
    (try simp only [Act.put, List.setIfInBounds_toArray, List.set_cons_zero, List.set_cons_succ])
    refine wpAnyIn_done (by kernel_rfl) ?_ _
    refine NoPan.normal ?_
    gi_wp2_with fail
    go_end0
    exact ⟨⟨_, rfl⟩, .inr ⟨_, trivial, hx⟩⟩
end Go.Proofs.YtdmjdpaehnhdoaaDoor
