/- Flight's Door: a row of guarded operations, with the act a variable | Flight's Door: a row of guarded operations, with the facts of the temporaries as one list | Flight's Door: a region that draws its order, with the facts of the temporaries as one list -/
import Derived.Deep.MidRow
import Derived.Deep.RegionHeld3
import Derived.Test.YtjmhefkmpfkpbaaKA
namespace Go.Proofs.Ytjmhefkmpfkpbaa
open Go.ChangeShapes Go.WideShapes Go.ChangeAt Go.RowKit
set_option linter.unusedSimpArgs false
set_option linter.unusedVariables false
/-- What a temporary holds. -/
abbrev tv (a : Act) (t : Nat) : Value := a.tmps.getD t undef
theorem put_sz (a : Act) (d : Nat) (v : Value) : (a.put (some d) v).tmps.size = a.tmps.size := by simp [Act.put]
theorem put_ne (a : Act) {d t : Nat} (v : Value) (h : t ≠ d) : tv (a.put (some d) v) t = tv a t := by
  show ((a.tmps.setIfInBounds d v).getD t undef) = a.tmps.getD t undef
  rw [Array.getD_eq_getD_getElem?, Array.getD_eq_getD_getElem?, Array.getElem?_setIfInBounds_ne (fun e => h e.symm)]
theorem put_eq (a : Act) {d : Nat} (v : Value) (h : d < a.tmps.size) : tv (a.put (some d) v) d = v := by
  show ((a.tmps.setIfInBounds d v).getD d undef) = v
  rw [Array.getD_eq_getD_getElem?, Array.getElem?_setIfInBounds_self_of_lt h]
  rfl
section
variable {P : Program} {ops : Array Oper} {Q : Exit → Act → World → Prop} {a : Act} {w : World} {rest : List Oper} {o : Oper}
theorem stY (v : Value) (hw : Region.wanted o (yielded ops a.tmps) = true) (hr : (execOp a.eval o).run P w = .ok (.value v) w) (h : wpList P ops Q rest (a.put o.dst v) w) : wpList P ops Q (o :: rest) a w :=
  wpList_step fun K hK => by
    rw [if_pos hw]
    unfold Oper.wp
    rw [hr]
    exact hK _ _ h
theorem stN (hw : Region.wanted o (yielded ops a.tmps) = false) (h : wpList P ops Q rest (a.put o.dst undef) w) : wpList P ops Q (o :: rest) a w :=
  wpList_step fun K hK => by
    rw [if_neg (by rw [hw]; decide)]
    exact hK _ _ h
theorem yld {i p : Nat} {b : Bool} (hi : (ops[i]?).bind (·.dst) = some p) (hp : p < a.tmps.size) (hb : tv a p = .bool b) : yielded ops a.tmps i = some b := by
  unfold yielded
  rw [hi]
  have h : a.tmps[p]? = some (.bool b) := by
    rw [← hb, Array.getElem?_eq_getElem hp]
    show some _ = some (a.tmps.getD p undef)
    rw [Array.getD_eq_getD_getElem?, Array.getElem?_eq_getElem hp]
    rfl
  show (match (a.tmps[p]?) with | some (.bool b) => some b | _ => none) = some b
  rw [h]
theorem wantN {o : Oper} (hg : o.guard = none) (y : Nat → Option Bool) : Region.wanted o y = true := by unfold Region.wanted; rw [hg]
theorem wantY {o : Oper} {i : Nat} {b : Bool} {y : Nat → Option Bool} (hg : o.guard = some (i, b)) (h : y i = some b) : Region.wanted o y = true := by
  unfold Region.wanted
  rw [hg]
  simp [h]
theorem wantF {o : Oper} {i : Nat} {b c : Bool} {y : Nat → Option Bool} (hg : o.guard = some (i, b)) (h : y i = some c) (hb : c ≠ b) : Region.wanted o y = false := by
  unfold Region.wanted
  rw [hg]
  simp [h, hb]
theorem yldU {i p : Nat} (hi : (ops[i]?).bind (·.dst) = some p) (hp : p < a.tmps.size) (hb : tv a p = undef) : yielded ops a.tmps i = none := by
  unfold yielded
  rw [hi]
  have h : a.tmps[p]? = some undef := by
    rw [← hb, Array.getElem?_eq_getElem hp]
    show some _ = some (a.tmps.getD p undef)
    rw [Array.getD_eq_getD_getElem?, Array.getElem?_eq_getElem hp]
    rfl
  show (match (a.tmps[p]?) with | some (.bool b) => some b | _ => none) = none
  rw [h]
  rfl
theorem wantU {o : Oper} {i : Nat} {b : Bool} {y : Nat → Option Bool} (hg : o.guard = some (i, b)) (h : y i = none) : Region.wanted o y = false := by
  unfold Region.wanted
  rw [hg]
  simp [h]
theorem run_load_mid {ev : Operand → Value} (ty : TypeId) (x : Operand) (ho : o.op = .load ty x) (b off : Nat) (hx : ev x = .pointer (some ⟨b, off, none⟩)) (cs : List Value) (d : TypeDesc) (hc : w.rangeAt b off cs)
    (hu : P.underlying ty = some d) (hd : d.isRow = true) (hi : (P.info? ty).map (·.size) = some cs.length) : (execOp ev o).run P w = .ok (.value (.agg cs.toArray)) w := by
  unfold execOp
  simp only [ho, hx, Instr.loadAt, Instr.sureAddr, Sem.run_bind, Sem.run_pure, Result.andThen_ok, run_loadVar_mid w b off ty cs d hc hu hd hi]
end
end Go.Proofs.Ytjmhefkmpfkpbaa
namespace Go.Proofs.Ytjmhefkmpfkpbaa
open Go.ChangeShapes Go.WideShapes Go.ChangeAt Go.RowKit
set_option linter.unusedSimpArgs false
set_option linter.unusedVariables false
/-- A value behind a guard. -/
def gv (g : Bool) (v : Value) : Value := if g = true then v else undef
/-- What is known of an act. -/
structure Sx (a : Act) (n : Nat) (l : List (Nat × Value)) : Prop where
  sz : a.tmps.size = n
  df : a.defers = []
  fx : ∀ t v, l.lookup t = some v → tv a t = v
section
variable {P : Program} {ops : Array Oper} {Q : Exit → Act → World → Prop} {a : Act} {w : World} {rest : List Oper} {o : Oper} {n : Nat} {l : List (Nat × Value)}
theorem Sx.put (S : Sx a n l) {d : Nat} (v : Value) (hd : d < n) : Sx (a.put (some d) v) n ((d, v) :: l) := ⟨(put_sz ..).trans S.sz, S.df, fun t u h => by
  by_cases e : t = d
  · subst e
    rw [put_eq _ _ (by rw [S.sz]; exact hd)]
    simpa [List.lookup] using h
  · rw [put_ne _ _ e]
    exact S.fx t u (by simpa [List.lookup, beq_eq_false_iff_ne.mpr e] using h)⟩
theorem Sx.two {t1 t2 : Nat} {v1 v2 : Value} (hs : a.tmps.size = n) (hd : a.defers = []) (h1 : tv a t1 = v1) (h2 : tv a t2 = v2) : Sx a n [(t1, v1), (t2, v2)] := ⟨hs, hd, fun t v h => by
  by_cases e : t = t1
  · subst e
    simp [List.lookup] at h
    rw [h1, h]
  · by_cases e2 : t = t2
    · subst e2
      simp [List.lookup, beq_eq_false_iff_ne.mpr e] at h
      rw [h2, h]
    · simp [List.lookup, beq_eq_false_iff_ne.mpr e, beq_eq_false_iff_ne.mpr e2] at h⟩
theorem wG {i p : Nat} {b gp e : Bool} (S : Sx a n l) (hg : o.guard = some (i, b)) (hi : (ops[i]?).bind (·.dst) = some p) (hpn : p < n) (hp : l.lookup p = some (gv gp (.bool e))) : Region.wanted o (yielded ops a.tmps) = (gp && (e == b)) := by
  have hz : p < a.tmps.size := by rw [S.sz]; exact hpn
  cases gp
  · exact wantU hg (yldU hi hz (S.fx _ _ hp))
  · have hv : tv a p = .bool e := S.fx _ _ hp
    by_cases he : e = b
    · subst he
      rw [wantY hg (yld hi hz hv)]
      simp
    · rw [wantF hg (yld hi hz hv) he]
      simp [he]
theorem sx0 {d : Nat} {g : Bool} (S : Sx a n l) (v : Value) (W : Region.wanted o (yielded ops a.tmps) = g) (ho : o.dst = some d) (hd : d < n) (hr : g = true → (execOp a.eval o).run P w = .ok (.value v) w)
    (h : ∀ a' : Act, Sx a' n ((d, gv g v) :: l) → wpList P ops Q rest a' w) : wpList P ops Q (o :: rest) a w := by
  cases g
  · exact stN W (by rw [ho]; exact h _ (S.put undef hd))
  · exact stY v W (hr rfl) (by rw [ho]; exact h _ (S.put v hd))
theorem sx1 {d : Nat} {g gx : Bool} {X : Value} (x : Nat) (S : Sx a n l) (v : Value) (W : Region.wanted o (yielded ops a.tmps) = g) (hx : l.lookup x = some (gv gx X)) (hg : g = true → gx = true)
    (hr : ∀ ev : Operand → Value, (∀ k, ev (.const k) = k) → ev (.tmp x) = X → (execOp ev o).run P w = .ok (.value v) w)
    (h : ∀ a' : Act, Sx a' n ((d, gv g v) :: l) → wpList P ops Q rest a' w) (ho : o.dst = some d := by rfl) (hd : d < n := by decide) : wpList P ops Q (o :: rest) a w :=
  sx0 S v W ho hd (fun e => hr _ (fun _ => rfl) (by have := S.fx _ _ hx; rw [hg e] at this; exact this)) h
theorem pick_or {d p x y : Nat} {s : String} {f : Array Go.Edge} {gd : Option (Nat × Bool)} (ev : Operand → Value) (B c : Bool) (e1 : ev (.tmp p) = .bool B) (e2 : B = false → ev (.tmp x) = .bool c) (e3 : ev (.const (.bool true)) = .bool true) : (execOp ev ⟨some d, .pick (.tmp p) (.const (.bool true)) (.tmp x), y, s, f, gd⟩).run P w = .ok (.value (.bool (B || c))) w := by
  cases B
  · simp [execOp, e1, e2 rfl, go_sem]
  · simp [execOp, e1, e3, go_sem]
theorem pick_and {d p x y : Nat} {s : String} {f : Array Go.Edge} {gd : Option (Nat × Bool)} (ev : Operand → Value) (B c : Bool) (e1 : ev (.tmp p) = .bool B) (e2 : B = true → ev (.tmp x) = .bool c) (e3 : ev (.const (.bool false)) = .bool false) : (execOp ev ⟨some d, .pick (.tmp p) (.tmp x) (.const (.bool false)), y, s, f, gd⟩).run P w = .ok (.value (.bool (B && c))) w := by
  cases B
  · simp [execOp, e1, e3, go_sem]
  · simp [execOp, e1, e2 rfl, go_sem]
theorem sxOr {d p x y : Nat} {g gp gy B c : Bool} {s : String} {f : Array Go.Edge} {gd : Option (Nat × Bool)} (S : Sx a n l) (W : Region.wanted ⟨some d, .pick (.tmp p) (.const (.bool true)) (.tmp x), y, s, f, gd⟩ (yielded ops a.tmps) = g)
    (hp : l.lookup p = some (gv gp (.bool B))) (hx : l.lookup x = some (gv gy (.bool c))) (hg : g = true → gp = true) (hy : g = true → B = false → gy = true)
    (h : ∀ a' : Act, Sx a' n ((d, gv g (.bool (B || c))) :: l) → wpList P ops Q rest a' w) (hd : d < n := by decide) : wpList P ops Q (⟨some d, .pick (.tmp p) (.const (.bool true)) (.tmp x), y, s, f, gd⟩ :: rest) a w :=
  sx0 S _ W rfl hd (fun e => pick_or _ _ _ (by have := S.fx _ _ hp; rw [hg e] at this; exact this) (fun b => by have := S.fx _ _ hx; rw [hy e b] at this; exact this) rfl) h
theorem sxAnd {d p x y : Nat} {g gp gy B c : Bool} {s : String} {f : Array Go.Edge} {gd : Option (Nat × Bool)} (S : Sx a n l) (W : Region.wanted ⟨some d, .pick (.tmp p) (.tmp x) (.const (.bool false)), y, s, f, gd⟩ (yielded ops a.tmps) = g)
    (hp : l.lookup p = some (gv gp (.bool B))) (hx : l.lookup x = some (gv gy (.bool c))) (hg : g = true → gp = true) (hy : g = true → B = true → gy = true)
    (h : ∀ a' : Act, Sx a' n ((d, gv g (.bool (B && c))) :: l) → wpList P ops Q rest a' w) (hd : d < n := by decide) : wpList P ops Q (⟨some d, .pick (.tmp p) (.tmp x) (.const (.bool false)), y, s, f, gd⟩ :: rest) a w :=
  sx0 S _ W rfl hd (fun e => pick_and _ _ _ (by have := S.fx _ _ hp; rw [hg e] at this; exact this) (fun b => by have := S.fx _ _ hx; rw [hy e b] at this; exact this) rfl) h
theorem sxMv {d x y : Nat} {g gx : Bool} {X : Value} {s : String} {f : Array Go.Edge} {gd : Option (Nat × Bool)} (S : Sx a n l) (W : Region.wanted ⟨some d, .move (.tmp x), y, s, f, gd⟩ (yielded ops a.tmps) = g) (hx : l.lookup x = some (gv gx X)) (hg : g = true → gx = true)
    (h : ∀ a' : Act, Sx a' n ((d, gv g X) :: l) → wpList P ops Q rest a' w) (hd : d < n := by decide) : wpList P ops Q (⟨some d, .move (.tmp x), y, s, f, gd⟩ :: rest) a w :=
  sx1 x S X W hx hg (fun ev ec e => by simp [execOp, e, go_sem]) h rfl hd
theorem sx2 {d : Nat} {g gx gy : Bool} {X Y : Value} (x y : Nat) (S : Sx a n l) (v : Value) (W : Region.wanted o (yielded ops a.tmps) = g) (hx : l.lookup x = some (gv gx X)) (hy : l.lookup y = some (gv gy Y)) (hg : g = true → gx = true) (hg2 : g = true → gy = true)
    (hr : ∀ ev : Operand → Value, (∀ k, ev (.const k) = k) → ev (.tmp x) = X → ev (.tmp y) = Y → (execOp ev o).run P w = .ok (.value v) w)
    (h : ∀ a' : Act, Sx a' n ((d, gv g v) :: l) → wpList P ops Q rest a' w) (ho : o.dst = some d := by rfl) (hd : d < n := by decide) : wpList P ops Q (o :: rest) a w :=
  sx0 S v W ho hd (fun e => hr _ (fun _ => rfl) (by have := S.fx _ _ hx; rw [hg e] at this; exact this) (by have := S.fx _ _ hy; rw [hg2 e] at this; exact this)) h
/-- A call with two arguments. -/
theorem sxC2 {d : Nat} {g gx gy : Bool} {X Y : Value} (x y : Nat) (S : Sx a n l) (f : FuncId) (u : Value) (W : Region.wanted o (yielded ops a.tmps) = g) (hx : l.lookup x = some (gv gx X)) (hy : l.lookup y = some (gv gy Y)) (hg : g = true → gx = true) (hg2 : g = true → gy = true)
    (hr : ∀ ev : Operand → Value, (∀ f, ev (.func f) = .func (.func f) #[] #[]) → ev (.tmp x) = X → ev (.tmp y) = Y → (execOp ev o).run P w = .ok (.enter f #[X, Y]) w)
    (hc : Calls P f #[X, Y] w fun en w' => en = .returned u ∧ Below w.heap.size w w')
    (h : ∀ (a' : Act) (w' : World), Below w.heap.size w w' → Sx a' n ((d, gv g u) :: l) → wpList P ops Q rest a' w') (ho : o.dst = some d := by rfl) (hd : d < n := by decide) : wpList P ops Q (o :: rest) a w := by
  cases g
  · exact stN W (by rw [ho]; exact h _ _ (Below.refl _ _) (S.put undef hd))
  · have e1 : a.eval (.tmp x) = X := by have := S.fx _ _ hx; rw [hg rfl] at this; exact this
    have e2 : a.eval (.tmp y) = Y := by have := S.fx _ _ hy; rw [hg2 rfl] at this; exact this
    refine wpList_step fun K hK => ?_
    rw [if_pos W]
    unfold Oper.wp
    rw [hr _ (fun _ => rfl) e1 e2, Oper.upon_enter]
    refine hc.mono fun en w' hh => ?_
    obtain ⟨rfl, hb⟩ := hh
    rw [ho]
    exact hK _ _ (h _ _ hb (S.put u hd))
/-- A call. -/
theorem sxC {d : Nat} {g gx : Bool} {X : Value} (x : Nat) (S : Sx a n l) (f : FuncId) (u : Value) (W : Region.wanted o (yielded ops a.tmps) = g) (hx : l.lookup x = some (gv gx X)) (hg : g = true → gx = true)
    (hr : ∀ ev : Operand → Value, (∀ f, ev (.func f) = .func (.func f) #[] #[]) → ev (.tmp x) = X → (execOp ev o).run P w = .ok (.enter f #[X]) w)
    (hc : Calls P f #[X] w fun en w' => en = .returned u ∧ Below w.heap.size w w')
    (h : ∀ (a' : Act) (w' : World), Below w.heap.size w w' → Sx a' n ((d, gv g u) :: l) → wpList P ops Q rest a' w') (ho : o.dst = some d := by rfl) (hd : d < n := by decide) : wpList P ops Q (o :: rest) a w := by
  cases g
  · exact stN W (by rw [ho]; exact h _ _ (Below.refl _ _) (S.put undef hd))
  · have e1 : a.eval (.tmp x) = X := by have := S.fx _ _ hx; rw [hg rfl] at this; exact this
    refine wpList_step fun K hK => ?_
    rw [if_pos W]
    unfold Oper.wp
    rw [hr _ (fun _ => rfl) e1, Oper.upon_enter]
    refine hc.mono fun en w' hh => ?_
    obtain ⟨rfl, hb⟩ := hh
    rw [ho]
    exact hK _ _ (h _ _ hb (S.put u hd))
theorem Sx.none_ (S : Sx a n l) {v : Value} : Sx (a.put none v) n l := S
/-- An operation that changes the world. -/
theorem sxW {d : Nat} (S : Sx a n l) (v : Value) (w' : World) (W : Region.wanted o (yielded ops a.tmps) = true) (hr : (execOp a.eval o).run P w = .ok (.value v) w')
    (h : ∀ a' : Act, Sx a' n ((d, gv true v) :: l) → wpList P ops Q rest a' w') (ho : o.dst = some d := by rfl) (hd : d < n := by decide) : wpList P ops Q (o :: rest) a w :=
  wpList_step fun K hK => by
    rw [if_pos W]
    unfold Oper.wp
    rw [hr]
    show K (a.put o.dst v) w'
    rw [ho]
    exact hK _ _ (h _ (S.put v hd))
/-- A call whose answer is told by a relation. -/
theorem sxK {d : Nat} {X : Value} (x : Nat) (S : Sx a n l) (f : FuncId) (R : Value → World → Prop) (hx : l.lookup x = some (gv true X))
    (hr : ∀ ev : Operand → Value, (∀ f, ev (.func f) = .func (.func f) #[] #[]) → ev (.tmp x) = X → (execOp ev o).run P w = .ok (.enter f #[X]) w)
    (hc : Calls P f #[X] w fun en w' => ∃ u, en = .returned u ∧ R u w')
    (h : ∀ (a' : Act) (w' : World) (u : Value), R u w' → Sx a' n ((d, gv true u) :: l) → wpList P ops Q rest a' w') (ho : o.dst = some d := by rfl) (hg : o.guard = none := by rfl) (hd : d < n := by decide) : wpList P ops Q (o :: rest) a w := by
  have e1 : a.eval (.tmp x) = X := S.fx _ _ hx
  refine wpList_step fun K hK => ?_
  rw [if_pos (wantN hg _)]
  unfold Oper.wp
  rw [hr _ (fun _ => rfl) e1, Oper.upon_enter]
  refine hc.mono fun en w' hh => ?_
  obtain ⟨u, rfl, hb⟩ := hh
  rw [ho]
  exact hK _ _ (h _ _ u hb (S.put u hd))
/-- A store. -/
theorem sxS {x y : Nat} {X Y : Value} (S : Sx a n l) (w' : World) (hx : l.lookup x = some (gv true X)) (hy : l.lookup y = some (gv true Y))
    (hr : ∀ ev : Operand → Value, ev (.tmp x) = X → ev (.tmp y) = Y → (execOp ev o).run P w = .ok .skip w')
    (h : ∀ a' : Act, Sx a' n l → wpList P ops Q rest a' w') (ho : o.dst = none := by rfl) (hg : o.guard = none := by rfl) : wpList P ops Q (o :: rest) a w :=
  wpList_step fun K hK => by
    rw [if_pos (wantN hg _)]
    unfold Oper.wp
    rw [hr _ (S.fx _ _ hx) (S.fx _ _ hy)]
    show K (a.put o.dst undef) w'
    rw [ho]
    exact hK _ _ (h _ S)
theorem lookup_mem {α : Type} {t : Nat} {v : α} : ∀ {l : List (Nat × α)}, l.lookup t = some v → (t, v) ∈ l
  | [], h => by cases h
  | (s, u) :: l, h => by
    by_cases e : t = s
    · subst e
      simp [List.lookup] at h
      rw [h]
      exact List.mem_cons_self
    · simp only [List.lookup, beq_eq_false_iff_ne.mpr e] at h
      exact List.mem_cons_of_mem _ (lookup_mem h)
theorem Sx.of {l : List (Nat × Value)} (hs : a.tmps.size = n) (hd : a.defers = []) (h : ∀ p ∈ l, tv a p.1 = p.2) : Sx a n l := ⟨hs, hd, fun _ _ hl => h _ (lookup_mem hl)⟩
theorem Sx.sub (S : Sx a n l) {l' : List (Nat × Value)} (h : ∀ p ∈ l', l.lookup p.1 = some p.2) : Sx a n l' := ⟨S.sz, S.df, fun _ _ hl => S.fx _ _ (h _ (lookup_mem hl))⟩
theorem allN {α : Type} {p : α → Prop} : ∀ x ∈ ([] : List α), p x := fun _ h => by cases h
theorem allC {α : Type} {p : α → Prop} {x : α} {l : List α} (h : p x) (hl : ∀ y ∈ l, p y) : ∀ y ∈ x :: l, p y := List.forall_mem_cons.2 ⟨h, hl⟩
theorem wpList_sx {rest : List Oper} {l : List (Nat × Value)} (n : Nat) (hs : a.tmps.size = n) (hd : a.defers = []) (h0 : ∀ p ∈ l, tv a p.1 = p.2) (h : ∀ a' : Act, Sx a' n l → wpList P ops Q rest a' w) : wpList P ops Q rest a w := h a (Sx.of hs hd h0)
theorem qMv {d y : Nat} {g gx : Bool} {s : String} {f : Array Go.Edge} {gd : Option (Nat × Bool)} {x : Nat} {X : Value}  (h : ∀ a' : Act, Sx a' n ((d, gv g (X)) :: l) → wpList P ops Q rest a' w) (S : Sx a n l := by assumption) (W : Sx a n l → Region.wanted ⟨some d, .move (.tmp x), y, s, f, gd⟩ (yielded ops a.tmps) = g := by (intro S; first | exact wantN rfl _ | exact wG S rfl rfl (by decide) rfl)) (hx : l.lookup x = some (gv gx (X)) := by rfl) (hg : g = true → gx = true := by first | exact id | exact fun _ => rfl | simp_all) 
    (hd : d < n := by decide) : wpList P ops Q (⟨some d, .move (.tmp x), y, s, f, gd⟩ :: rest) a w :=
  sx1 x S _ (W S) hx hg (fun ev ec e => by simp [execOp, e, go_sem]) h rfl hd
theorem qAs {d y : Nat} {g gx : Bool} {s : String} {f : Array Go.Edge} {gd : Option (Nat × Bool)} {x : Nat} {X : Value}  (h : ∀ a' : Act, Sx a' n ((d, gv g (X)) :: l) → wpList P ops Q rest a' w) (S : Sx a n l := by assumption) (W : Sx a n l → Region.wanted ⟨some d, .assign (.tmp x), y, s, f, gd⟩ (yielded ops a.tmps) = g := by (intro S; first | exact wantN rfl _ | exact wG S rfl rfl (by decide) rfl)) (hx : l.lookup x = some (gv gx (X)) := by rfl) (hg : g = true → gx = true := by first | exact id | exact fun _ => rfl | simp_all) 
    (hd : d < n := by decide) : wpList P ops Q (⟨some d, .assign (.tmp x), y, s, f, gd⟩ :: rest) a w :=
  sx1 x S _ (W S) hx hg (fun ev ec e => by simp [execOp, e, go_sem]) h rfl hd
theorem qNot {d y : Nat} {g gx : Bool} {s : String} {f : Array Go.Edge} {gd : Option (Nat × Bool)} {x : Nat} {T : TypeId} {c : Bool}  (h : ∀ a' : Act, Sx a' n ((d, gv g (.bool (!c))) :: l) → wpList P ops Q rest a' w) (S : Sx a n l := by assumption) (W : Sx a n l → Region.wanted ⟨some d, .unOp .not T (.tmp x), y, s, f, gd⟩ (yielded ops a.tmps) = g := by (intro S; first | exact wantN rfl _ | exact wG S rfl rfl (by decide) rfl)) (hx : l.lookup x = some (gv gx (.bool c)) := by rfl) (hg : g = true → gx = true := by first | exact id | exact fun _ => rfl | simp_all) 
    (hd : d < n := by decide) : wpList P ops Q (⟨some d, .unOp .not T (.tmp x), y, s, f, gd⟩ :: rest) a w :=
  sx1 x S _ (W S) hx hg (fun ev ec e => by simp [execOp, e, go_sem]) h rfl hd
theorem qF {d y : Nat} {g gx : Bool} {s : String} {f : Array Go.Edge} {gd : Option (Nat × Bool)} {x : Nat} {T : TypeId} {j b off off2 : Nat}  (h : ∀ a' : Act, Sx a' n ((d, gv g (.pointer (some ⟨b, off2, none⟩))) :: l) → wpList P ops Q rest a' w) (S : Sx a n l := by assumption) (W : Sx a n l → Region.wanted ⟨some d, .fieldAddr T (.tmp x) j, y, s, f, gd⟩ (yielded ops a.tmps) = g := by (intro S; first | exact wantN rfl _ | exact wG S rfl rfl (by decide) rfl)) (hx : l.lookup x = some (gv gx (.pointer (some ⟨b, off, none⟩))) := by rfl) (hg : g = true → gx = true := by first | exact id | exact fun _ => rfl | simp_all) (hr : ∀ ev : Operand → Value, ev (.tmp x) = .pointer (some ⟨b, off, none⟩) → (execOp ev ⟨some d, .fieldAddr T (.tmp x) j, y, s, f, gd⟩).run P w = .ok (.value (.pointer (some ⟨b, off2, none⟩))) w := by (intro ev e; go_simp; first | done | rfl))
    (hd : d < n := by decide) : wpList P ops Q (⟨some d, .fieldAddr T (.tmp x) j, y, s, f, gd⟩ :: rest) a w :=
  sx1 x S _ (W S) hx hg (fun ev ec e => hr ev e) h rfl hd
theorem qL {d y : Nat} {g gx : Bool} {s : String} {f : Array Go.Edge} {gd : Option (Nat × Bool)} {x : Nat} {T t : TypeId} {b off : Nat} {cs : Array Value} {v : Value} (k : Blk w b t cs) (h : ∀ a' : Act, Sx a' n ((d, gv g (v)) :: l) → wpList P ops Q rest a' w) (S : Sx a n l := by assumption) (W : Sx a n l → Region.wanted ⟨some d, .load T (.tmp x), y, s, f, gd⟩ (yielded ops a.tmps) = g := by (intro S; first | exact wantN rfl _ | exact wG S rfl rfl (by decide) rfl)) (hx : l.lookup x = some (gv gx (.pointer (some ⟨b, off, none⟩))) := by rfl) (hg : g = true → gx = true := by first | exact id | exact fun _ => rfl | simp_all) (hv : cs[off]? = some v := by rfl) (hr : ∀ ev : Operand → Value, w.cell? ⟨b, off, none⟩ = some v → ev (.tmp x) = .pointer (some ⟨b, off, none⟩) → (execOp ev ⟨some d, .load T (.tmp x), y, s, f, gd⟩).run P w = .ok (.value v) w := by (intro ev s0 e; go_simp; first | done | rfl))
    (hd : d < n := by decide) : wpList P ops Q (⟨some d, .load T (.tmp x), y, s, f, gd⟩ :: rest) a w :=
  sx1 x S _ (W S) hx hg (fun ev ec e => hr ev ((k.cell off).trans hv) e) h rfl hd
theorem qR {d y : Nat} {g gx : Bool} {s : String} {f : Array Go.Edge} {gd : Option (Nat × Bool)} {x : Nat} {T t : TypeId} {b off : Nat} {cs : Array Value} (k : Blk w b t cs) (ds : List Value) (h : ∀ a' : Act, Sx a' n ((d, gv g (.agg ds.toArray)) :: l) → wpList P ops Q rest a' w) (S : Sx a n l := by assumption) (W : Sx a n l → Region.wanted ⟨some d, .load T (.tmp x), y, s, f, gd⟩ (yielded ops a.tmps) = g := by (intro S; first | exact wantN rfl _ | exact wG S rfl rfl (by decide) rfl)) (hx : l.lookup x = some (gv gx (.pointer (some ⟨b, off, none⟩))) := by rfl) (hg : g = true → gx = true := by first | exact id | exact fun _ => rfl | simp_all) (hs : (cs.toList.drop off).take ds.length = ds := by rfl) {D : TypeDesc} (hu : P.underlying T = some D := by rfl) (hD : D.isRow = true := by rfl) (hi : (P.info? T).map (·.size) = some ds.length := by kernel_rfl)
    (hd : d < n := by decide) : wpList P ops Q (⟨some d, .load T (.tmp x), y, s, f, gd⟩ :: rest) a w :=
  sx1 x S _ (W S) hx hg (fun ev ec e => run_load_mid T _ rfl b off e ds D (k.range off ds hs) hu hD hi) h rfl hd
theorem qLss {d y : Nat} {g gx : Bool} {s : String} {f : Array Go.Edge} {gd : Option (Nat × Bool)} {x : Nat} {T U : TypeId} {k : IntKind} {e c : Int}  (h : ∀ a' : Act, Sx a' n ((d, gv g (.bool (decide (e < c)))) :: l) → wpList P ops Q rest a' w) (S : Sx a n l := by assumption) (W : Sx a n l → Region.wanted ⟨some d, .binOp .lss T (.tmp x) (.const (.int k c)) U, y, s, f, gd⟩ (yielded ops a.tmps) = g := by (intro S; first | exact wantN rfl _ | exact wG S rfl rfl (by decide) rfl)) (hx : l.lookup x = some (gv gx (.int k e)) := by rfl) (hg : g = true → gx = true := by first | exact id | exact fun _ => rfl | simp_all) (hr : ∀ ev : Operand → Value, (∀ k, ev (.const k) = k) → ev (.tmp x) = .int k e → (execOp ev ⟨some d, .binOp .lss T (.tmp x) (.const (.int k c)) U, y, s, f, gd⟩).run P w = .ok (.value (.bool (decide (e < c)))) w := by (intro ev ec e; go_simp; first | done | rfl))
    (hd : d < n := by decide) : wpList P ops Q (⟨some d, .binOp .lss T (.tmp x) (.const (.int k c)) U, y, s, f, gd⟩ :: rest) a w :=
  sx1 x S _ (W S) hx hg (hr) h rfl hd
theorem qGtr {d y : Nat} {g gx : Bool} {s : String} {f : Array Go.Edge} {gd : Option (Nat × Bool)} {x : Nat} {T U : TypeId} {k : IntKind} {e c : Int}  (h : ∀ a' : Act, Sx a' n ((d, gv g (.bool (decide (c < e)))) :: l) → wpList P ops Q rest a' w) (S : Sx a n l := by assumption) (W : Sx a n l → Region.wanted ⟨some d, .binOp .gtr T (.tmp x) (.const (.int k c)) U, y, s, f, gd⟩ (yielded ops a.tmps) = g := by (intro S; first | exact wantN rfl _ | exact wG S rfl rfl (by decide) rfl)) (hx : l.lookup x = some (gv gx (.int k e)) := by rfl) (hg : g = true → gx = true := by first | exact id | exact fun _ => rfl | simp_all) (hr : ∀ ev : Operand → Value, (∀ k, ev (.const k) = k) → ev (.tmp x) = .int k e → (execOp ev ⟨some d, .binOp .gtr T (.tmp x) (.const (.int k c)) U, y, s, f, gd⟩).run P w = .ok (.value (.bool (decide (c < e)))) w := by (intro ev ec e; go_simp; first | done | rfl))
    (hd : d < n := by decide) : wpList P ops Q (⟨some d, .binOp .gtr T (.tmp x) (.const (.int k c)) U, y, s, f, gd⟩ :: rest) a w :=
  sx1 x S _ (W S) hx hg (hr) h rfl hd
theorem qGeq {d y : Nat} {g gx : Bool} {s : String} {f : Array Go.Edge} {gd : Option (Nat × Bool)} {x : Nat} {T U : TypeId} {k : IntKind} {e c : Int}  (h : ∀ a' : Act, Sx a' n ((d, gv g (.bool (decide (c ≤ e)))) :: l) → wpList P ops Q rest a' w) (S : Sx a n l := by assumption) (W : Sx a n l → Region.wanted ⟨some d, .binOp .geq T (.tmp x) (.const (.int k c)) U, y, s, f, gd⟩ (yielded ops a.tmps) = g := by (intro S; first | exact wantN rfl _ | exact wG S rfl rfl (by decide) rfl)) (hx : l.lookup x = some (gv gx (.int k e)) := by rfl) (hg : g = true → gx = true := by first | exact id | exact fun _ => rfl | simp_all) (hr : ∀ ev : Operand → Value, (∀ k, ev (.const k) = k) → ev (.tmp x) = .int k e → (execOp ev ⟨some d, .binOp .geq T (.tmp x) (.const (.int k c)) U, y, s, f, gd⟩).run P w = .ok (.value (.bool (decide (c ≤ e)))) w := by (intro ev ec e; go_simp; first | done | rfl))
    (hd : d < n := by decide) : wpList P ops Q (⟨some d, .binOp .geq T (.tmp x) (.const (.int k c)) U, y, s, f, gd⟩ :: rest) a w :=
  sx1 x S _ (W S) hx hg (hr) h rfl hd
theorem qNeq {d y : Nat} {g gx : Bool} {s : String} {f : Array Go.Edge} {gd : Option (Nat × Bool)} {x : Nat} {T U : TypeId} {k : IntKind} {e c : Int}  (h : ∀ a' : Act, Sx a' n ((d, gv g (.bool (e != c))) :: l) → wpList P ops Q rest a' w) (S : Sx a n l := by assumption) (W : Sx a n l → Region.wanted ⟨some d, .binOp .neq T (.tmp x) (.const (.int k c)) U, y, s, f, gd⟩ (yielded ops a.tmps) = g := by (intro S; first | exact wantN rfl _ | exact wG S rfl rfl (by decide) rfl)) (hx : l.lookup x = some (gv gx (.int k e)) := by rfl) (hg : g = true → gx = true := by first | exact id | exact fun _ => rfl | simp_all) (hr : ∀ ev : Operand → Value, (∀ k, ev (.const k) = k) → ev (.tmp x) = .int k e → (execOp ev ⟨some d, .binOp .neq T (.tmp x) (.const (.int k c)) U, y, s, f, gd⟩).run P w = .ok (.value (.bool (e != c))) w := by (intro ev ec e; go_simp; first | done | rfl))
    (hd : d < n := by decide) : wpList P ops Q (⟨some d, .binOp .neq T (.tmp x) (.const (.int k c)) U, y, s, f, gd⟩ :: rest) a w :=
  sx1 x S _ (W S) hx hg (hr) h rfl hd
theorem qEql {d y : Nat} {g gx : Bool} {s : String} {f : Array Go.Edge} {gd : Option (Nat × Bool)} {x : Nat} {T U : TypeId} {k : IntKind} {e c : Int}  (h : ∀ a' : Act, Sx a' n ((d, gv g (.bool (e == c))) :: l) → wpList P ops Q rest a' w) (S : Sx a n l := by assumption) (W : Sx a n l → Region.wanted ⟨some d, .binOp .eql T (.tmp x) (.const (.int k c)) U, y, s, f, gd⟩ (yielded ops a.tmps) = g := by (intro S; first | exact wantN rfl _ | exact wG S rfl rfl (by decide) rfl)) (hx : l.lookup x = some (gv gx (.int k e)) := by rfl) (hg : g = true → gx = true := by first | exact id | exact fun _ => rfl | simp_all) (hr : ∀ ev : Operand → Value, (∀ k, ev (.const k) = k) → ev (.tmp x) = .int k e → (execOp ev ⟨some d, .binOp .eql T (.tmp x) (.const (.int k c)) U, y, s, f, gd⟩).run P w = .ok (.value (.bool (e == c))) w := by (intro ev ec e; go_simp; first | done | rfl))
    (hd : d < n := by decide) : wpList P ops Q (⟨some d, .binOp .eql T (.tmp x) (.const (.int k c)) U, y, s, f, gd⟩ :: rest) a w :=
  sx1 x S _ (W S) hx hg (hr) h rfl hd
theorem qLen {d y : Nat} {g gx : Bool} {s : String} {f : Array Go.Edge} {gd : Option (Nat × Bool)} {x : Nat} {T : TypeId} {A : Option Addr} {m c : Nat}  (h : ∀ a' : Act, Sx a' n ((d, gv g (.int .i64 m)) :: l) → wpList P ops Q rest a' w) (S : Sx a n l := by assumption) (W : Sx a n l → Region.wanted ⟨some d, .call { callee := .builtin .len, args := #[.tmp x], argTypes := #[T] }, y, s, f, gd⟩ (yielded ops a.tmps) = g := by (intro S; first | exact wantN rfl _ | exact wG S rfl rfl (by decide) rfl)) (hx : l.lookup x = some (gv gx (.slice A m c)) := by rfl) (hg : g = true → gx = true := by first | exact id | exact fun _ => rfl | simp_all) (hr : ∀ ev : Operand → Value, ev (.tmp x) = .slice A m c → (execOp ev ⟨some d, .call { callee := .builtin .len, args := #[.tmp x], argTypes := #[T] }, y, s, f, gd⟩).run P w = .ok (.value (.int .i64 m)) w := by (intro ev e; go_simp; first | done | rfl))
    (hd : d < n := by decide) : wpList P ops Q (⟨some d, .call { callee := .builtin .len, args := #[.tmp x], argTypes := #[T] }, y, s, f, gd⟩ :: rest) a w :=
  sx1 x S _ (W S) hx hg (fun ev ec e => hr ev e) h rfl hd
theorem qOr {d y : Nat} {g gx : Bool} {s : String} {f : Array Go.Edge} {gd : Option (Nat × Bool)} {p x : Nat} {gy B c : Bool} (h : ∀ a' : Act, Sx a' n ((d, gv g (.bool (B || c))) :: l) → wpList P ops Q rest a' w) (S : Sx a n l := by assumption) (W : Sx a n l → Region.wanted ⟨some d, .pick (.tmp p) (.const (.bool true)) (.tmp x), y, s, f, gd⟩ (yielded ops a.tmps) = g := by (intro S; first | exact wantN rfl _ | exact wG S rfl rfl (by decide) rfl)) (hp : l.lookup p = some (gv gx (.bool B)) := by rfl) (hx : l.lookup x = some (gv gy (.bool c)) := by rfl) (hg : g = true → gx = true := by first | exact id | exact fun _ => rfl | simp_all)
    (hy : g = true → B = false → gy = true := by first | exact fun _ _ => rfl | (intro _ h; first | (rw [h]; done) | (rw [h]; rfl) | simp_all)) (hd : d < n := by decide) : wpList P ops Q (⟨some d, .pick (.tmp p) (.const (.bool true)) (.tmp x), y, s, f, gd⟩ :: rest) a w :=
  sxOr S (W S) hp hx hg hy h hd
theorem qAnd {d y : Nat} {g gx : Bool} {s : String} {f : Array Go.Edge} {gd : Option (Nat × Bool)} {p x : Nat} {gy B c : Bool} (h : ∀ a' : Act, Sx a' n ((d, gv g (.bool (B && c))) :: l) → wpList P ops Q rest a' w) (S : Sx a n l := by assumption) (W : Sx a n l → Region.wanted ⟨some d, .pick (.tmp p) (.tmp x) (.const (.bool false)), y, s, f, gd⟩ (yielded ops a.tmps) = g := by (intro S; first | exact wantN rfl _ | exact wG S rfl rfl (by decide) rfl)) (hp : l.lookup p = some (gv gx (.bool B)) := by rfl) (hx : l.lookup x = some (gv gy (.bool c)) := by rfl) (hg : g = true → gx = true := by first | exact id | exact fun _ => rfl | simp_all)
    (hy : g = true → B = true → gy = true := by first | exact fun _ _ => rfl | (intro _ h; first | (rw [h]; done) | (rw [h]; rfl) | simp_all)) (hd : d < n := by decide) : wpList P ops Q (⟨some d, .pick (.tmp p) (.tmp x) (.const (.bool false)), y, s, f, gd⟩ :: rest) a w :=
  sxAnd S (W S) hp hx hg hy h hd
theorem qEqI {d y : Nat} {g gx : Bool} {s : String} {f : Array Go.Edge} {gd : Option (Nat × Bool)} {x z : Nat} {gz : Bool} {T U : TypeId} {k : IntKind} {e e2 : Int} (h : ∀ a' : Act, Sx a' n ((d, gv g (.bool (e == e2))) :: l) → wpList P ops Q rest a' w) (S : Sx a n l := by assumption) (W : Sx a n l → Region.wanted ⟨some d, .binOp .eql T (.tmp x) (.tmp z) U, y, s, f, gd⟩ (yielded ops a.tmps) = g := by (intro S; first | exact wantN rfl _ | exact wG S rfl rfl (by decide) rfl)) (hx : l.lookup x = some (gv gx (.int k e)) := by rfl) (hz : l.lookup z = some (gv gz (.int k e2)) := by rfl) (hg : g = true → gx = true := by first | exact id | exact fun _ => rfl | simp_all) (hg2 : g = true → gz = true := by first | exact id | exact fun _ => rfl | simp_all)
    (hr : ∀ ev : Operand → Value, ev (.tmp x) = .int k e → ev (.tmp z) = .int k e2 → (execOp ev ⟨some d, .binOp .eql T (.tmp x) (.tmp z) U, y, s, f, gd⟩).run P w = .ok (.value (.bool (e == e2))) w := by (intro ev e e2; go_simp; first | done | rfl)) (hd : d < n := by decide) : wpList P ops Q (⟨some d, .binOp .eql T (.tmp x) (.tmp z) U, y, s, f, gd⟩ :: rest) a w :=
  sx2 x z S _ (W S) hx hz hg hg2 (fun ev _ e e2 => hr ev e e2) h rfl hd
theorem qEqB {d y : Nat} {g gx : Bool} {s : String} {f : Array Go.Edge} {gd : Option (Nat × Bool)} {x z : Nat} {gz : Bool} {T U : TypeId} {e e2 : Bool} (h : ∀ a' : Act, Sx a' n ((d, gv g (.bool (e == e2))) :: l) → wpList P ops Q rest a' w) (S : Sx a n l := by assumption) (W : Sx a n l → Region.wanted ⟨some d, .binOp .eql T (.tmp x) (.tmp z) U, y, s, f, gd⟩ (yielded ops a.tmps) = g := by (intro S; first | exact wantN rfl _ | exact wG S rfl rfl (by decide) rfl)) (hx : l.lookup x = some (gv gx (.bool e)) := by rfl) (hz : l.lookup z = some (gv gz (.bool e2)) := by rfl) (hg : g = true → gx = true := by first | exact id | exact fun _ => rfl | simp_all) (hg2 : g = true → gz = true := by first | exact id | exact fun _ => rfl | simp_all)
    (hr : ∀ ev : Operand → Value, ev (.tmp x) = .bool e → ev (.tmp z) = .bool e2 → (execOp ev ⟨some d, .binOp .eql T (.tmp x) (.tmp z) U, y, s, f, gd⟩).run P w = .ok (.value (.bool (e == e2))) w := by (intro ev e e2; go_simp; first | done | rfl)) (hd : d < n := by decide) : wpList P ops Q (⟨some d, .binOp .eql T (.tmp x) (.tmp z) U, y, s, f, gd⟩ :: rest) a w :=
  sx2 x z S _ (W S) hx hz hg hg2 (fun ev _ e e2 => hr ev e e2) h rfl hd
theorem qC {d y : Nat} {g gx : Bool} {s : String} {f : Array Go.Edge} {gd : Option (Nat × Bool)} {x : Nat} {fn : FuncId} {ts : Array TypeId} {X u : Value} (hc : Calls P fn #[X] w fun en w' => en = .returned u ∧ Below w.heap.size w w')
    (h : ∀ (a' : Act) (w' : World), Below w.heap.size w w' → Sx a' n ((d, gv g u) :: l) → wpList P ops Q rest a' w') (S : Sx a n l := by assumption) (W : Sx a n l → Region.wanted ⟨some d, .call { callee := .value (.func fn), args := #[.tmp x], argTypes := ts }, y, s, f, gd⟩ (yielded ops a.tmps) = g := by (intro S; first | exact wantN rfl _ | exact wG S rfl rfl (by decide) rfl)) (hx : l.lookup x = some (gv gx X) := by rfl) (hg : g = true → gx = true := by first | exact id | exact fun _ => rfl | simp_all) 
    (hr : ∀ ev : Operand → Value, (∀ f, ev (.func f) = .func (.func f) #[] #[]) → ev (.tmp x) = X → (execOp ev ⟨some d, .call { callee := .value (.func fn), args := #[.tmp x], argTypes := ts }, y, s, f, gd⟩).run P w = .ok (.enter fn #[X]) w := by (intro ev ef e; go_simp; first | done | rfl)) (hd : d < n := by decide) : wpList P ops Q (⟨some d, .call { callee := .value (.func fn), args := #[.tmp x], argTypes := ts }, y, s, f, gd⟩ :: rest) a w :=
  sxC x S fn u (W S) hx hg hr hc h rfl hd
theorem qC2 {d y : Nat} {g gx : Bool} {s : String} {f : Array Go.Edge} {gd : Option (Nat × Bool)} {x z : Nat} {gz : Bool} {fn : FuncId} {ts : Array TypeId} {X Y u : Value} (hc : Calls P fn #[X, Y] w fun en w' => en = .returned u ∧ Below w.heap.size w w')
    (h : ∀ (a' : Act) (w' : World), Below w.heap.size w w' → Sx a' n ((d, gv g u) :: l) → wpList P ops Q rest a' w') (S : Sx a n l := by assumption) (W : Sx a n l → Region.wanted ⟨some d, .call { callee := .value (.func fn), args := #[.tmp x, .tmp z], argTypes := ts }, y, s, f, gd⟩ (yielded ops a.tmps) = g := by (intro S; first | exact wantN rfl _ | exact wG S rfl rfl (by decide) rfl)) (hx : l.lookup x = some (gv gx X) := by rfl) (hz : l.lookup z = some (gv gz Y) := by rfl) (hg : g = true → gx = true := by first | exact id | exact fun _ => rfl | simp_all) (hg2 : g = true → gz = true := by first | exact id | exact fun _ => rfl | simp_all)
    (hr : ∀ ev : Operand → Value, (∀ f, ev (.func f) = .func (.func f) #[] #[]) → ev (.tmp x) = X → ev (.tmp z) = Y → (execOp ev ⟨some d, .call { callee := .value (.func fn), args := #[.tmp x, .tmp z], argTypes := ts }, y, s, f, gd⟩).run P w = .ok (.enter fn #[X, Y]) w := by (intro ev ef e e2; go_simp; first | done | rfl)) (hd : d < n := by decide) : wpList P ops Q (⟨some d, .call { callee := .value (.func fn), args := #[.tmp x, .tmp z], argTypes := ts }, y, s, f, gd⟩ :: rest) a w :=
  sxC2 x z S fn u (W S) hx hz hg hg2 hr hc h rfl hd
end
end Go.Proofs.Ytjmhefkmpfkpbaa
namespace Go.Proofs.Ytjmhefkmpfkpbaa
open Go.ChangeShapes Go.WideShapes Go.ChangeAt Go.RowKit
set_option linter.unusedSimpArgs false
set_option linter.unusedVariables false
section
variable {P : Program} {ops : Array Oper} {Q : Exit → Act → World → Prop} {md : Region.Mode} {S : World → Prop} {fuel n : Nat} {listed L : Array Bool} {a : Act} {w : World} {l : List (Nat × Value)} {o : Oper}
/-- One operation that reads is taken first. -/
theorem hx1 {i d : Nat} {X : Value} (x : Nat) (F : Sx a n l) (v : Value) (hi : ops[i]? = some o) (hx : l.lookup x = some (gv true X))
    (hr : ∀ w', S w' → ∀ ev : Operand → Value, (∀ k, ev (.const k) = k) → ev (.tmp x) = X → (execOp ev o).run P w' = .ok (.value v) w') (hS : S w)
    (h : ∀ a' : Act, Sx a' n ((d, gv true v) :: l) → wpAnyH P md ops (NoPanic Q) S fuel (listed.setIfInBounds i true) a' w)
    (hs : Region.noSelect ops = true) (hf : Region.free md ops listed i = true) (hy : (Region.ready md ops listed).contains i = true)
    (ho : o.dst = some d := by rfl) (hg : o.guard = none := by rfl) (hd : d < n := by decide) : wpAnyH P md ops (NoPanic Q) S (fuel + 1) listed a w :=
  wpAnyH_take hi hs hf hy (fun _ _ _ h => h) (.inl ⟨wantN hg _, fun w' hw => hr w' hw _ (fun _ => rfl) (F.fx _ _ hx)⟩) hS (by rw [ho]; exact h _ (F.put v hd))
/-- The same for a guarded one; one operand. -/
theorem hxG {i d : Nat} {g gx : Bool} {X : Value} (x : Nat) (F : Sx a n l) (v : Value) (hi : ops[i]? = some o) (W : Region.wanted o (yielded ops a.tmps) = g) (hx : l.lookup x = some (gv gx X)) (hg : g = true → gx = true)
    (hr : ∀ w', S w' → ∀ ev : Operand → Value, (∀ k, ev (.const k) = k) → ev (.tmp x) = X → (execOp ev o).run P w' = .ok (.value v) w') (hS : S w)
    (h : ∀ a' : Act, Sx a' n ((d, gv g v) :: l) → wpAnyH P md ops (NoPanic Q) S fuel (listed.setIfInBounds i true) a' w)
    (hs : Region.noSelect ops = true) (hf : Region.free md ops listed i = true) (hy : (Region.ready md ops listed).contains i = true)
    (ho : o.dst = some d := by rfl) (hd : d < n := by decide) : wpAnyH P md ops (NoPanic Q) S (fuel + 1) listed a w := by
  cases g
  · exact wpAnyH_take hi hs hf hy (fun _ _ _ h => h) (.inr ⟨W, rfl⟩) hS (by rw [ho]; exact h _ (F.put undef hd))
  · exact wpAnyH_take hi hs hf hy (fun _ _ _ h => h) (.inl ⟨W, fun w' hw => hr w' hw _ (fun _ => rfl) (by have := F.fx _ _ hx; rw [hg rfl] at this; exact this)⟩) hS (by rw [ho]; exact h _ (F.put v hd))
/-- Two operands. -/
theorem hx2 {i d : Nat} {gy : Bool} {X Y : Value} (x y : Nat) (F : Sx a n l) (v : Value) (hi : ops[i]? = some o) (hx : l.lookup x = some (gv true X)) (hy2 : l.lookup y = some (gv gy Y)) (hgy : gy = true)
    (hr : ∀ w', S w' → ∀ ev : Operand → Value, (∀ k, ev (.const k) = k) → ev (.tmp x) = X → ev (.tmp y) = Y → (execOp ev o).run P w' = .ok (.value v) w') (hS : S w)
    (h : ∀ a' : Act, Sx a' n ((d, gv true v) :: l) → wpAnyH P md ops (NoPanic Q) S fuel (listed.setIfInBounds i true) a' w)
    (hs : Region.noSelect ops = true) (hf : Region.free md ops listed i = true) (hy : (Region.ready md ops listed).contains i = true)
    (ho : o.dst = some d := by rfl) (hg : o.guard = none := by rfl) (hd : d < n := by decide) : wpAnyH P md ops (NoPanic Q) S (fuel + 1) listed a w :=
  wpAnyH_take hi hs hf hy (fun _ _ _ h => h) (.inl ⟨wantN hg _, fun w' hw => hr w' hw _ (fun _ => rfl) (F.fx _ _ hx) (by subst hgy; exact F.fx _ _ hy2)⟩) hS (by rw [ho]; exact h _ (F.put v hd))
/-- p && x, behind p. -/
theorem hxAnd {i d p x y : Nat} {gy B c : Bool} {s : String} {f : Array Go.Edge} (F : Sx a n l) (hi : ops[i]? = some ⟨some d, .pick (.tmp p) (.tmp x) (.const (.bool false)), y, s, f, none⟩) (hp : l.lookup p = some (gv true (.bool B))) (hx : l.lookup x = some (gv gy (.bool c))) (hy2 : B = true → gy = true) (hS : S w)
    (h : ∀ a' : Act, Sx a' n ((d, gv true (.bool (B && c))) :: l) → wpAnyH P md ops (NoPanic Q) S fuel (listed.setIfInBounds i true) a' w)
    (hs : Region.noSelect ops = true) (hf : Region.free md ops listed i = true) (hy : (Region.ready md ops listed).contains i = true) (hd : d < n := by decide) : wpAnyH P md ops (NoPanic Q) S (fuel + 1) listed a w :=
  wpAnyH_take hi hs hf hy (fun _ _ _ h => h) (.inl ⟨wantN rfl _, fun w' _ => pick_and _ _ _ (F.fx _ _ hp) (fun b => by have := F.fx _ _ hx; rw [hy2 b] at this; exact this) rfl⟩) hS (h _ (F.put _ hd))
/-- An operation that makes memory. -/
theorem hxW {d : Nat} (F : Sx a n l) (v : Value) (w' : World) (hr : (execOp a.eval o).run P w = .ok (.value v) w') (hS : S w')
    (h : ∀ a' : Act, Sx a' n ((d, gv true v) :: l) → wpAnyH P md ops Q S fuel L a' w')
    (ho : o.dst = some d := by rfl) (hg : o.guard = none := by rfl) (hd : d < n := by decide) :
    ∀ K' : Act → World → Prop, Shut (∀ a w, S w → (S w → wpAnyH P md ops Q S fuel L a w) → K' a w) → if Region.wanted o (yielded ops a.tmps) = true then Oper.wp P o a w K' Q else K' (a.put o.dst undef) w := fun K' hK => by
  rw [if_pos (wantN hg _)]
  unfold Oper.wp
  rw [hr]
  show K' (a.put o.dst v) w'
  rw [ho]
  exact hK.out _ _ hS (fun _ => h _ (F.put v hd))
/-- A store. -/
theorem hxS {x y : Nat} {X Y : Value} (F : Sx a n l) (w' : World) (hx : l.lookup x = some (gv true X)) (hy : l.lookup y = some (gv true Y))
    (hr : ∀ ev : Operand → Value, ev (.tmp x) = X → ev (.tmp y) = Y → (execOp ev o).run P w = .ok .skip w') (hS : S w')
    (h : ∀ a' : Act, Sx a' n l → wpAnyH P md ops Q S fuel L a' w') (ho : o.dst = none := by rfl) (hg : o.guard = none := by rfl) :
    ∀ K' : Act → World → Prop, Shut (∀ a w, S w → (S w → wpAnyH P md ops Q S fuel L a w) → K' a w) → if Region.wanted o (yielded ops a.tmps) = true then Oper.wp P o a w K' Q else K' (a.put o.dst undef) w := fun K' hK => by
  rw [if_pos (wantN hg _)]
  unfold Oper.wp
  rw [hr _ (F.fx _ _ hx) (F.fx _ _ hy)]
  show K' (a.put o.dst undef) w'
  rw [ho]
  exact hK.out _ _ hS (fun _ => h _ F)
theorem run_load_row {ev : Operand → Value} (ty : TypeId) (x : Operand) (ho : o.op = .load ty x) (g : Nat) (hx : ev x = .pointer (some ⟨g, 0, none⟩)) (cs : Array Value) (t : TypeId) (d : TypeDesc) (hc : Blk w g t cs)
    (hu : P.underlying ty = some d) (hd : d.isRow = true) (hi : (P.info? ty).map (·.size) = some cs.size) : (execOp ev o).run P w = .ok (.value (.agg cs)) w := by
  have h := run_load_mid (P := P) (w := w) (o := o) (ev := ev) ty x ho g 0 hx cs.toList d (hc.range 0 _ (by rw [List.drop_zero, List.take_length])) hu hd (by simpa using hi)
  simpa using h
theorem run_store_row {ev : Operand → Value} (ty : TypeId) (x y : Operand) (ho : o.op = .store ty x y) (g : Nat) (hx : ev x = .pointer (some ⟨g, 0, none⟩)) (cs : Array Value) (hy : ev y = .agg cs) (t : TypeId) (old : Array Value) (hb : Blk w g t old)
    (hi : (P.info? ty).map (·.size) = some cs.size) (hold : old.size = cs.size) (h1 : cs.all (·.oneCell') = true) : (execOp ev o).run P w = .ok .skip (w.setRow g cs) := by
  unfold execOp
  simp only [ho, hx, hy, Instr.storeAt, Instr.sureAddr, Sem.run_bind, Sem.run_pure, Result.andThen_ok, run_storeVar_row w g t ty old cs hb.row hi hold h1]
end
end Go.Proofs.Ytjmhefkmpfkpbaa
