/- Flight: Double | Flight: the reference's without | Flight: the reference's Launched | Flight: the reference's Launch | Flight: each of the answers is one | Flight: the closures of Land and Lose -/
import Derived.IntWalk
import Derived.Test.YtdmjdpaehnhdoaaDoorLEE
import Derived.Test.YtdmjdpaehnhdoaaDoorLKM
import Derived.Test.YtdmjdpaehnhdoaaDoorKA
namespace Go.Proofs.YtdmjdpaehnhdoaaDoor
open Go.ChangeShapes Go.WideShapes Go.ChangeAt Go.RowKit
set_option linter.unusedSimpArgs false
set_option linter.unusedVariables false
/-- A list that is answered, in new memory. -/
def OutE (w : World) (v : Value) (l : List En) (w' : World) : Prop := ∃ A n c, v = .slice A n c ∧ TwE w n l A c w'
theorem TwE.out {w w1 w' : World} {n c : Nat} {A : Option Addr} {l : List En} (h : TwE w1 n l A c w') (hB : Below w.heap.size w w1) : OutE w (.slice A n c) l w' := ⟨A, n, c, rfl, accE_done (h.2.2.2.2.base_le hB.size) (hB.trans (h.2.2.2.1.mono hB.size))⟩
end Go.Proofs.YtdmjdpaehnhdoaaDoor
namespace Go.Proofs.YtdmjdpaehnhdoaaDoor
open Go.ChangeShapes Go.WideShapes Go.ChangeAt Go.RowKit
set_option linter.unusedSimpArgs false
set_option linter.unusedVariables false
end Go.Proofs.YtdmjdpaehnhdoaaDoor
namespace Go.Proofs.YtdmjdpaehnhdoaaDoor
open Go.ChangeShapes Go.WideShapes Go.ChangeAt Go.RowKit
set_option linter.unusedSimpArgs false
set_option linter.unusedVariables false
/-- A load among the others, ahead of the first one of a greater Number. -/
def insL (x : En) : List En → List En
  | [] => [x]
  | y :: r => if x.nu < y.nu then x :: y :: r else y :: insL x r
theorem insL_app {x : En} : ∀ (a b : List En), (∃ y ∈ a, x.nu < y.nu) → insL x (a ++ b) = insL x a ++ b
  | [], b, h => by obtain ⟨y, hy, _⟩ := h; cases hy
  | z :: a, b, h => by
    show (if x.nu < z.nu then x :: z :: (a ++ b) else z :: insL x (a ++ b)) = (if x.nu < z.nu then x :: z :: a else z :: insL x a) ++ b
    by_cases hz : x.nu < z.nu
    · rw [if_pos hz, if_pos hz]; rfl
    · rw [if_neg hz, if_neg hz, insL_app a b]
      · rfl
      · obtain ⟨y, hy, h⟩ := h
        rcases List.mem_cons.1 hy with rfl | hy
        · exact absurd h hz
        · exact ⟨y, hy, h⟩
theorem insL_none {x : En} : ∀ (a b : List En), (∀ y ∈ a, ¬ x.nu < y.nu) → insL x (a ++ b) = a ++ insL x b
  | [], b, h => rfl
  | z :: a, b, h => by
    show (if x.nu < z.nu then x :: z :: (a ++ b) else z :: insL x (a ++ b)) = z :: (a ++ insL x b)
    rw [if_neg (h z (by simp)), insL_none a b (fun y hy => h y (by simp [hy]))]
/-- Under way: D, whether it is laid. -/
def LnI (x : En) (l : List En) (k : Nat) (D : Bool) (os : List EO) : Prop := (D = true → os.map (·.x) = insL x (l.take k) ∧ ∃ y ∈ l.take k, x.nu < y.nu) ∧ (D = false → os.map (·.x) = l.take k ∧ ∀ y ∈ l.take k, ¬ x.nu < y.nu)
theorem LnI.on {x y : En} {l : List En} {k : Nat} {os : List EO} {o : EO} (h : LnI x l k true os) (hy : l[k]? = some y) (ho : o.x = y) : LnI x l (k + 1) true (os ++ [o]) := by
  obtain ⟨h1, z, hz, hzx⟩ := h.1 rfl
  refine ⟨fun _ => ⟨?_, z, ?_, hzx⟩, fun h => by cases h⟩
  · rw [List.map_append, h1, List.take_add_one, hy, Option.toList_some, insL_app _ _ ⟨z, hz, hzx⟩, List.map_cons, ho, List.map_nil]
  · rw [List.take_add_one]
    exact List.mem_append_left _ hz
theorem LnI.lay {x y : En} {l : List En} {k : Nat} {os : List EO} {o ox : EO} (h : LnI x l k false os) (hy : l[k]? = some y) (ho : o.x = y) (hox : ox.x = x) (hlt : x.nu < y.nu) : LnI x l (k + 1) true ((os ++ [ox]) ++ [o]) := by
  obtain ⟨h1, h2⟩ := h.2 rfl
  refine ⟨fun _ => ⟨?_, y, ?_, hlt⟩, fun h => by cases h⟩
  · rw [List.map_append, List.map_append, h1, List.take_add_one, hy, Option.toList_some, insL_none _ _ h2]
    simp [insL, if_pos hlt, ho, hox]
  · rw [List.take_add_one, hy]
    simp
theorem LnI.skip {x y : En} {l : List En} {k : Nat} {os : List EO} {o : EO} (h : LnI x l k false os) (hy : l[k]? = some y) (ho : o.x = y) (hlt : ¬ x.nu < y.nu) : LnI x l (k + 1) false (os ++ [o]) := by
  obtain ⟨h1, h2⟩ := h.2 rfl
  refine ⟨(fun h => by cases h), fun _ => ⟨?_, ?_⟩⟩
  · rw [List.map_append, h1, List.take_add_one, hy, Option.toList_some, List.map_cons, ho, List.map_nil]
  · rw [List.take_add_one, hy]
    intro z hz
    rcases List.mem_append.1 hz with h | h
    · exact h2 z h
    · rw [Option.toList_some, List.mem_singleton] at h
      subst h
      exact hlt
end Go.Proofs.YtdmjdpaehnhdoaaDoor
namespace Go.Proofs.YtdmjdpaehnhdoaaDoor
open Go.ChangeShapes Go.WideShapes Go.ChangeAt Go.RowKit
set_option linter.unusedSimpArgs false
set_option linter.unusedVariables false
end Go.Proofs.YtdmjdpaehnhdoaaDoor
namespace Go.Proofs.YtdmjdpaehnhdoaaDoor
open Go.ChangeShapes Go.WideShapes Go.ChangeAt Go.RowKit
set_option linter.unusedSimpArgs false
set_option linter.unusedVariables false
theorem chk_one {l : List En} {E E' : Int} (h : ChkF l E) (h' : ChkF l E') : E = E' := by
  rcases h.has with ⟨rfl, a⟩ | ⟨rfl, a, b⟩ | ⟨rfl, a, b⟩ <;> rcases h'.has with ⟨rfl, a'⟩ | ⟨rfl, a', b'⟩ | ⟨rfl, a', b'⟩ <;> first | rfl | omega | exact absurd b b' | exact absurd b' b
end Go.Proofs.YtdmjdpaehnhdoaaDoor
namespace Go.Proofs.YtdmjdpaehnhdoaaDoor
open Go.ChangeShapes Go.WideShapes Go.ChangeAt Go.RowKit
set_option linter.unusedSimpArgs false
set_option linter.unusedVariables false
theorem land1 (nu ep cp : Int) (ag0 : Bool) (aX0 : Option Addr) (an0 ac0 : Nat) (ae0 : Int) (ag1 : Bool) (aX1 : Option Addr) (an1 ac1 : Nat) (ae1 : Int) (ag2 : Bool) (aX2 : Option Addr) (an2 ac2 : Nat) (ae2 : Int) (ag3 : Bool) (aX3 : Option Addr) (an3 ac3 : Nat) (ae3 : Int) (w : World) : Calls Tryd.prog 49 #[.agg #[.int .i64 nu, .int .i64 ep, .int .i64 cp, .bool ag0, .slice aX0 an0 ac0, .int .i64 ae0, .bool ag1, .slice aX1 an1 ac1, .int .i64 ae1, .bool ag2, .slice aX2 an2 ac2, .int .i64 ae2, .bool ag3, .slice aX3 an3 ac3, .int .i64 ae3]] w fun en w' => en = .returned (.bool true) ∧ Below w.heap.size w w' := by
  have hB := (Below.refl w.heap.size w).alloc (Nat.le_refl _) (.cells #[.int .i64 nu, .int .i64 ep, .int .i64 cp, .bool ag0, .slice aX0 an0 ac0, .int .i64 ae0, .bool ag1, .slice aX1 an1 ac1, .int .i64 ae1, .bool ag2, .slice aX2 an2 ac2, .int .i64 ae2, .bool ag3, .slice aX3 an3 ac3, .int .i64 ae3] 48)
  go_enter Tryd.func49, Tryd.ntmps49
  go_wp2
  go_ret
  exact ⟨rfl, hB⟩
theorem lose1 (nu ep cp : Int) (ag0 : Bool) (aX0 : Option Addr) (an0 ac0 : Nat) (ae0 : Int) (ag1 : Bool) (aX1 : Option Addr) (an1 ac1 : Nat) (ae1 : Int) (ag2 : Bool) (aX2 : Option Addr) (an2 ac2 : Nat) (ae2 : Int) (ag3 : Bool) (aX3 : Option Addr) (an3 ac3 : Nat) (ae3 : Int) (w : World) (Q : Bool) (hQ : (cp == 1) = Q) : Calls Tryd.prog 48 #[.agg #[.int .i64 nu, .int .i64 ep, .int .i64 cp, .bool ag0, .slice aX0 an0 ac0, .int .i64 ae0, .bool ag1, .slice aX1 an1 ac1, .int .i64 ae1, .bool ag2, .slice aX2 an2 ac2, .int .i64 ae2, .bool ag3, .slice aX3 an3 ac3, .int .i64 ae3]] w fun en w' => en = .returned (.bool Q) ∧ Below w.heap.size w w' := by
  have hB := (Below.refl w.heap.size w).alloc (Nat.le_refl _) (.cells #[.int .i64 nu, .int .i64 ep, .int .i64 cp, .bool ag0, .slice aX0 an0 ac0, .int .i64 ae0, .bool ag1, .slice aX1 an1 ac1, .int .i64 ae1, .bool ag2, .slice aX2 an2 ac2, .int .i64 ae2, .bool ag3, .slice aX3 an3 ac3, .int .i64 ae3] 48)
  go_enter Tryd.func48, Tryd.ntmps48
  go_wp2
  go_ret
  exact ⟨rfl, hB⟩
end Go.Proofs.YtdmjdpaehnhdoaaDoor
