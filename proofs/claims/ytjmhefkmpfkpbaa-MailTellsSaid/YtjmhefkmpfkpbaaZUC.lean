/- Mail: more steps with the facts of the temporaries as one list | Mail: the reference's Twin | Mail: the steps of ref10.Of -/
import Derived.Test.YtjmhefkmpfkpbaaGX
import Derived.Test.YtjmhefkmpfkpbaaKA
import Derived.Test.YtjmhefkmpfkpbaaZRefTakeO
import Derived.Test.YtjmhefkmpfkpbaaUA
import Derived.Test.YtjmhefkmpfkpbaaFR
import Derived.Test.YtjmhefkmpfkpbaaZLL
import Derived.Test.YtjmhefkmpfkpbaaZPW
namespace Go.Proofs.Ytjmhefkmpfkpbaa
open Go.ChangeShapes Go.WideShapes Go.ChangeAt Go.RowKit
set_option linter.unusedSimpArgs false
set_option linter.unusedVariables false
section
variable {P : Program} {ops : Array Oper} {Q : Exit → Act → World → Prop} {a : Act} {w : World} {rest : List Oper} {o : Oper} {n : Nat} {l : List (Nat × Value)}
theorem look_ne {t d : Nat} {v : Value} (h : t ≠ d) : ((d, v) :: l).lookup t = l.lookup t := by
  simp [List.lookup, beq_eq_false_iff_ne.mpr h]
theorem look_eq {d : Nat} {v : Value} : ((d, v) :: l).lookup d = some v := by simp [List.lookup]
theorem look_lt {b : Nat} (hl : (l.map (·.1)).all (· < b) = true) {t : Nat} {v : Value} (h : l.lookup t = some v) : t < b := by
  have h2 := List.all_eq_true.1 hl t (List.mem_map.2 ⟨(t, v), lookup_mem h, rfl⟩)
  simpa using h2
/-- Two texts of code in a row, what holds between them named. -/
theorem wp_join {x y : Code} (R : Act → World → Prop) (h1 : x.wp P (Exit.then R Q) a w) (h2 : ∀ a w, R a w → y.wp P Q a w) : (Code.seq x y).wp P Q a w :=
  wp_seq (wp_mono h1 fun e a w h => by cases e <;> first | exact h2 _ _ h | exact h)
theorem wp_abs {c : Code} {l : List (Nat × Value)} (n : Nat) (hs : a.tmps.size = n) (hd : a.defers = []) (h0 : ∀ p ∈ l, tv a p.1 = p.2) (h : ∀ a' : Act, Sx a' n l → c.wp P Q a' w) : c.wp P Q a w := h a (Sx.of hs hd h0)
/-- A call, whatever its arguments, whose answer is told by a relation. -/
theorem sxKA {d : Nat} (S : Sx a n l) (f : FuncId) (args : Array Value) (R : Value → World → Prop) (hr : (execOp a.eval o).run P w = .ok (.enter f args) w)
    (hc : Calls P f args w fun en w' => ∃ u, en = .returned u ∧ R u w')
    (h : ∀ (a' : Act) (w' : World) (u : Value), R u w' → Sx a' n ((d, gv true u) :: l) → wpList P ops Q rest a' w') (ho : o.dst = some d := by rfl) (hg : o.guard = none := by rfl) (hd : d < n := by decide) : wpList P ops Q (o :: rest) a w := by
  refine wpList_step fun K hK => ?_
  rw [if_pos (wantN hg _)]
  unfold Oper.wp
  rw [hr, Oper.upon_enter]
  refine hc.mono fun en w' hh => ?_
  obtain ⟨u, rfl, hb⟩ := hh
  rw [ho]
  exact hK _ _ (h _ _ u hb (S.put u hd))
theorem runG {gx : Bool} {X : Value} {res : Result Next} (x : Nat) (S : Sx a n l) (hx : l.lookup x = some (gv gx X)) (hg : gx = true) (h : ∀ ev : Operand → Value, (∀ k, ev (.const k) = k) → (∀ f, ev (.func f) = .func (.func f) #[] #[]) → ev (.tmp x) = X → (execOp ev o).run P w = res) : (execOp a.eval o).run P w = res :=
  h _ (fun _ => rfl) (fun _ => rfl) (by have := S.fx _ _ hx; rw [hg] at this; exact this)
theorem then_exit {id : Nat} {K : Act → World → Prop} (h : Q (.exit id) a w) : Exit.then K Q (.exit id) a w := h
theorem inBlock_exit {id : Nat} (h : Q .normal a w) : Exit.inBlock id Q (.exit id) a w := by
  unfold Exit.inBlock
  simpa using h
/-- A great value is stored amid a block. -/
theorem run_store_midU {ev : Operand → Value} {g off : Nat} {t ty : TypeId} {cs ds : Array Value} (x y : Operand) (ho : o.op = .store ty x y) (hx : ev x = .pointer (some ⟨g, off, none⟩)) (hy : ev y = .agg ds) (hb : Blk w g t cs) (hoff : off + ds.size ≤ cs.size) (h1 : ds.all (·.oneCell') = true)
    (hi : (P.info? ty).map (·.size) = some ds.size) : (execOp ev o).run P w = .ok .skip (w.setCells g off ds.toList) := by
  unfold execOp
  simp only [ho, hx, hy, Instr.storeAt, Instr.sureAddr, Sem.run_bind, Sem.run_pure, Result.andThen_ok, run_storeVar_mid w g off ty ds (fun j hj => ⟨by rw [hb.cell, Array.getElem?_eq_getElem (by omega)]; rfl, hb.frozen _⟩) hi h1]
/-- A single cell is stored. -/
theorem run_store_cell {ev : Operand → Value} {g off : Nat} {t ty : TypeId} {cs : Array Value} {v : Value} (x y : Operand) (ho : o.op = .store ty x y) (hx : ev x = .pointer (some ⟨g, off, none⟩)) (hy : ev y = v) (hb : Blk w g t cs) (hoff : off < cs.size) (h1 : v.oneCell' = true)
    (hi : (P.info? ty).map (·.size) = some 1) : (execOp ev o).run P w = .ok .skip (w.setCell ⟨g, off, none⟩ v) := by
  have hc : v.cells = #[v] := by cases v <;> first | rfl | (simp [Value.oneCell'] at h1)
  have h2 := run_storeCells_cells (P := P) g off [v] 0 w (fun j hj => by
    have : j = 0 := by simpa using hj
    subst this
    rw [hb.cell]; simp only [Nat.add_zero]; rw [Array.getElem?_eq_getElem hoff]; rfl) (fun j hj => by
    have : j = 0 := by simpa using hj
    subst this
    exact hb.frozen _) (fun u hu => by rw [List.mem_singleton.1 hu]; exact h1)
  cases hq : P.info? ty with
  | none => simp [hq] at hi
  | some i =>
    have hs : i.size = 1 := by simpa [hq] using hi
    simp only [Nat.add_zero] at h2
    unfold execOp
    simp only [ho, hx, hy, Instr.storeAt, Instr.sureAddr, Sem.run_bind, Sem.run_pure, Result.andThen_ok]
    simp [storeVar, sizeOf, typeInfo, hq, hc, hs, h2, World.setCells]
/-- x, v = f(x, ..): x is a block, v a temporary. -/
theorem num6 {g b : Nat} {T : TypeId} {cs : Array Value} {f : FuncId} {args : Array Value} {o1 : Oper} {D : TypeDesc} {y1 y2 y3 y4 y5 : Nat} {s1 s2 s3 s4 s5 : String} {f1 f2 f3 f4 f5 : Array Go.Edge}
    (S : Sx a n l) (h7 : l.lookup 7 = some (gv true (.pointer (some ⟨g, 0, none⟩)))) (hl : (l.map (·.1)).all (· < b) = true) (hn : b + 4 < n) (k7 : Blk w g T cs)
    (hu : P.underlying T = some D) (hD : D.isRow = true) (hi : (P.info? T).map (·.size) = some cs.size) (R : Array Value → Value → World → Prop)
    (h1 : o1.dst = some (b + 2)) (h1g : o1.guard = none)
    (hr : ∀ ev : Operand → Value, (∀ k, ev (.const k) = k) → (∀ f, ev (.func f) = .func (.func f) #[] #[]) → ev (.tmp (b + 1)) = .agg cs → (execOp ev o1).run P w = .ok (.enter f args) w)
    (hc : Calls P f args w fun en w' => ∃ X Y, en = .returned (.tuple #[.agg X, Y]) ∧ R X Y w')
    (hR : ∀ X Y w', R X Y w' → X.size = cs.size ∧ X.all (·.oneCell') = true ∧ Below w.heap.size w w')
    (h : ∀ (a' : Act) (w' : World) (X : Array Value) (Y : Value), R X Y w' → Sx a' n ((b + 4, gv true Y) :: l) → wpList P ops Q rest a' (w'.setRow g X)) :
    wpList P ops Q (⟨some (b + 1), .load T (.tmp 7), y1, s1, f1, none⟩ :: o1 :: ⟨some b, .move (.tmp (b + 2)), y2, s2, f2, none⟩ :: ⟨some (b + 3), .extract (.tmp b) 0, y3, s3, f3, none⟩ :: ⟨some (b + 4), .extract (.tmp b) 1, y4, s4, f4, none⟩ :: ⟨none, .store T (.tmp 7) (.tmp (b + 3)), y5, s5, f5, none⟩ :: rest) a w := by
  have h7b := look_lt hl h7
  refine sx1 7 S (.agg cs) (wantN rfl _) h7 (fun _ => rfl) (fun ev ec e => run_load_row T _ rfl g e cs T D k7 hu hD hi) ?_ rfl (by omega); intro a S
  refine sxKA S f args (fun u w' => ∃ X Y, u = .tuple #[.agg X, Y] ∧ R X Y w') (hr _ (fun _ => rfl) (fun _ => rfl) (S.fx (b + 1) _ look_eq)) (hc.mono fun en w' ⟨X, Y, h, h2⟩ => ⟨_, h, X, Y, rfl, h2⟩) ?_ h1 h1g (by omega)
  intro a w' u ⟨X, Y, hu2, hXY⟩ S
  subst hu2
  obtain ⟨r1, r2, r3⟩ := hR X Y w' hXY
  refine sxMv S (wantN rfl _) look_eq (fun _ => rfl) ?_ (by omega); intro a S
  refine sx1 b S (.agg X) (wantN rfl _) look_eq (fun _ => rfl) (fun ev ec e => by go_simp; try rfl) ?_ rfl (by omega); intro a S
  refine sx1 b S Y (wantN rfl _) ((look_ne (by omega)).trans look_eq) (fun _ => rfl) (fun ev ec e => by go_simp; try rfl) ?_ rfl (by omega); intro a S
  refine sxS (x := 7) (y := b + 3) S (w'.setRow g X) ((look_ne (by omega)).trans ((look_ne (by omega)).trans ((look_ne (by omega)).trans ((look_ne (by omega)).trans ((look_ne (by omega)).trans h7))))) ((look_ne (by omega)).trans look_eq)
    (fun ev e e2 => run_store_row T _ _ rfl g e X e2 T cs (k7.below r3 k7.lt) (by rw [hi, r1]) r1.symm r2) ?_
  intro a S
  refine h a w' X Y hXY ⟨S.sz, S.df, fun t v ht => ?_⟩
  by_cases e : t = b + 4
  · subst e
    rw [look_eq] at ht
    exact S.fx _ _ (look_eq.trans ht)
  · rw [look_ne e] at ht
    have := look_lt hl ht
    exact S.fx _ _ ((look_ne (by omega)).trans ((look_ne (by omega)).trans ((look_ne (by omega)).trans ((look_ne (by omega)).trans ((look_ne (by omega)).trans ht)))))
/-- A new block, and what is stored there. -/
theorem sxBox {d y y1 y2 : Nat} {s1 s2 : String} {f1 f2 : Array Go.Edge} {T : TypeId} {cs : Array Value} (z : Array Value) (S : Sx a n l) (hy : l.lookup y = some (gv true (.agg cs)))
    (h : ∀ (a' : Act) (w' : World), Sx a' n ((d, gv true (.pointer (some ⟨w.heap.size, 0, none⟩))) :: l) → Blk w' w.heap.size T cs → Below w.heap.size w w' → w'.heap.size = w.heap.size + 1 → wpList P ops Q rest a' w')
    (hz : z.size = cs.size := by rfl) (h1 : cs.all (·.oneCell') = true := by simp [Value.oneCell']) (hi : (P.info? T).map (·.size) = some cs.size := by kernel_rfl)
    (hr : ∀ ev : Operand → Value, (execOp ev ⟨some d, .alloc T, y1, s1, f1, none⟩).run P w = .ok (.value (.pointer (some ⟨w.heap.size, 0, none⟩))) (w.alloc (.cells z T)) := by (intro ev; go_simp; first | done | rfl)) (hd : d < n := by decide) (hyd : y ≠ d := by decide) :
    wpList P ops Q (⟨some d, .alloc T, y1, s1, f1, none⟩ :: ⟨none, .store T (.tmp d) (.tmp y), y2, s2, f2, none⟩ :: rest) a w := by
  refine sxW S (.pointer (some ⟨w.heap.size, 0, none⟩)) (w.alloc (.cells z T)) (wantN rfl _) (hr _) ?_ rfl hd; intro a S
  have k := Blk.new w T z
  refine sxS (x := d) (y := y) S ((w.alloc (.cells z T)).setRow w.heap.size cs) look_eq ((look_ne hyd).trans hy) (fun ev e e2 => run_store_row T _ _ rfl _ e cs e2 T z k hi hz h1) ?_
  intro a S
  exact h _ _ S (k.setRow cs) (below_setRow ((Below.refl _ _).alloc (Nat.le_refl _) _) (Nat.le_refl _) cs) (by rw [setRow_size, World.size_alloc])
end
section
variable {P : Program} {ops : Array Oper} {Q : Exit → Act → World → Prop} {md : Region.Mode} {S : World → Prop} {fuel n : Nat} {listed L : Array Bool} {a : Act} {w : World} {l : List (Nat × Value)} {o : Oper}
/-- In a region that draws: p || x, behind p. -/
theorem hxOr {i d p x y : Nat} {gy B c : Bool} {s : String} {f : Array Go.Edge} (F : Sx a n l) (hi : ops[i]? = some ⟨some d, .pick (.tmp p) (.const (.bool true)) (.tmp x), y, s, f, none⟩) (hp : l.lookup p = some (gv true (.bool B))) (hx : l.lookup x = some (gv gy (.bool c))) (hy2 : B = false → gy = true) (hS : S w)
    (h : ∀ a' : Act, Sx a' n ((d, gv true (.bool (B || c))) :: l) → wpAnyH P md ops (NoPanic Q) S fuel (listed.setIfInBounds i true) a' w)
    (hs : Region.noSelect ops = true) (hf : Region.free md ops listed i = true) (hy : (Region.ready md ops listed).contains i = true) (hd : d < n := by decide) : wpAnyH P md ops (NoPanic Q) S (fuel + 1) listed a w :=
  wpAnyH_take hi hs hf hy (fun _ _ _ h => h) (.inl ⟨wantN rfl _, fun w' _ => pick_or _ _ _ (F.fx _ _ hp) (fun b => by have := F.fx _ _ hx; rw [hy2 b] at this; exact this) rfl⟩) hS (h _ (F.put _ hd))
/-- Two operands, behind a guard. -/
theorem hxG2 {i d : Nat} {g gx gy : Bool} {X Y : Value} (x y : Nat) (F : Sx a n l) (v : Value) (hi : ops[i]? = some o) (W : Region.wanted o (yielded ops a.tmps) = g) (hx : l.lookup x = some (gv gx X)) (hy2 : l.lookup y = some (gv gy Y)) (hg : g = true → gx = true) (hg2 : g = true → gy = true)
    (hr : ∀ w', S w' → ∀ ev : Operand → Value, (∀ k, ev (.const k) = k) → ev (.tmp x) = X → ev (.tmp y) = Y → (execOp ev o).run P w' = .ok (.value v) w') (hS : S w)
    (h : ∀ a' : Act, Sx a' n ((d, gv g v) :: l) → wpAnyH P md ops (NoPanic Q) S fuel (listed.setIfInBounds i true) a' w)
    (hs : Region.noSelect ops = true) (hf : Region.free md ops listed i = true) (hy : (Region.ready md ops listed).contains i = true)
    (ho : o.dst = some d := by rfl) (hd : d < n := by decide) : wpAnyH P md ops (NoPanic Q) S (fuel + 1) listed a w := by
  cases g
  · exact wpAnyH_take hi hs hf hy (fun _ _ _ h => h) (.inr ⟨W, rfl⟩) hS (by rw [ho]; exact h _ (F.put undef hd))
  · exact wpAnyH_take hi hs hf hy (fun _ _ _ h => h) (.inl ⟨W, fun w' hw => hr w' hw _ (fun _ => rfl) (by have := F.fx _ _ hx; rw [hg rfl] at this; exact this) (by have := F.fx _ _ hy2; rw [hg2 rfl] at this; exact this)⟩) hS (by rw [ho]; exact h _ (F.put v hd))
/-- A guarded call that has come up. -/
theorem hKG {β : Type} {d : Nat} {g : Bool} (U : β → Value) (x0 : β) (F : Sx a n l) (f : FuncId) (args : Array Value) (R : β → World → Prop) (W : Region.wanted o (yielded ops a.tmps) = g) (hS : S w)
    (hr : g = true → (execOp a.eval o).run P w = .ok (.enter f args) w) (hc : g = true → Calls P f args w fun en w' => ∃ x, en = .returned (U x) ∧ R x w') (hRS : ∀ x w', R x w' → S w')
    (h : ∀ (a' : Act) (w' : World) (x : β), (g = true → R x w') → S w' → Sx a' n ((d, gv g (U x)) :: l) → wpAnyH P md ops Q S fuel L a' w') (ho : o.dst = some d := by rfl) (hd : d < n := by decide) :
    ∀ K' : Act → World → Prop, Shut (∀ a w, S w → (S w → wpAnyH P md ops Q S fuel L a w) → K' a w) → if Region.wanted o (yielded ops a.tmps) = true then Oper.wp P o a w K' Q else K' (a.put o.dst undef) w := fun K' hK => by
  cases g
  · rw [if_neg (by rw [W]; decide), ho]
    exact hK.out _ _ hS (fun _ => h _ _ x0 (fun e => by cases e) hS (F.put undef hd))
  · rw [if_pos W]
    unfold Oper.wp
    rw [hr rfl, Oper.upon_enter]
    refine (hc rfl).mono fun en w' hh => ?_
    obtain ⟨x, rfl, hb⟩ := hh
    rw [ho]
    exact hK.out _ _ (hRS _ _ hb) (fun hS' => h _ _ x (fun _ => hb) hS' (F.put _ hd))
/-- A guarded operation that has come up and reads. -/
theorem hVG {d : Nat} {g : Bool} (F : Sx a n l) (v : Value) (W : Region.wanted o (yielded ops a.tmps) = g) (hS : S w) (hr : g = true → (execOp a.eval o).run P w = .ok (.value v) w)
    (h : ∀ a' : Act, Sx a' n ((d, gv g v) :: l) → wpAnyH P md ops Q S fuel L a' w) (ho : o.dst = some d := by rfl) (hd : d < n := by decide) :
    ∀ K' : Act → World → Prop, Shut (∀ a w, S w → (S w → wpAnyH P md ops Q S fuel L a w) → K' a w) → if Region.wanted o (yielded ops a.tmps) = true then Oper.wp P o a w K' Q else K' (a.put o.dst undef) w := fun K' hK => by
  cases g
  · rw [if_neg (by rw [W]; decide), ho]
    exact hK.out _ _ hS (fun _ => h _ (F.put undef hd))
  · rw [if_pos W]
    unfold Oper.wp
    rw [hr rfl]
    show K' (a.put o.dst v) w
    rw [ho]
    exact hK.out _ _ hS (fun _ => h _ (F.put v hd))
end
theorem anyH_lit {P : Program} {md : Region.Mode} {ops : Array Oper} {Q : Exit → Act → World → Prop} {S : World → Prop} {fuel : Nat} {listed L : Array Bool} {a : Act} {w : World} (h : listed = L) (hh : wpAnyH P md ops Q S fuel L a w) : wpAnyH P md ops Q S fuel listed a w := h ▸ hh
def fstC : Code → Code
  | .seq x _ => x
  | x => x
def sndC : Code → Code
  | .seq _ y => y
  | x => x
def opsC : Code → Array Oper
  | .region _ l _ => l
  | _ => #[]
theorem then_ret {K : Act → World → Prop} {Q : Exit → Act → World → Prop} {a : Act} {w : World} (h : Q .ret a w) : Exit.then K Q .ret a w := h
theorem runG2 {P : Program} {w : World} {a : Act} {n : Nat} {l : List (Nat × Value)} {op : Oper} {X Y : Value} {res : Result Next} (x y : Nat) (S : Sx a n l) (hx : l.lookup x = some (gv true X)) (hy : l.lookup y = some (gv true Y)) (h : ∀ ev : Operand → Value, (∀ k, ev (.const k) = k) → (∀ f, ev (.func f) = .func (.func f) #[] #[]) → ev (.tmp x) = X → ev (.tmp y) = Y → (execOp ev op).run P w = res) : (execOp a.eval op).run P w = res :=
  h _ (fun _ => rfl) (fun _ => rfl) (S.fx _ _ hx) (S.fx _ _ hy)
theorem add_mkq (g i : Nat) : (⟨g, 0, none⟩ : Addr).add i = ⟨g, i, none⟩ := by unfold Addr.add; split <;> simp_all
theorem runGG {P : Program} {w : World} {a : Act} {n : Nat} {l : List (Nat × Value)} {op : Oper} {X Y : Value} {gx gy : Bool} {res : Result Next} (x y : Nat) (S : Sx a n l) (hx : l.lookup x = some (gv gx X)) (hy : l.lookup y = some (gv gy Y)) (h1 : gx = true) (h2 : gy = true) (h : ∀ ev : Operand → Value, (∀ k, ev (.const k) = k) → (∀ f, ev (.func f) = .func (.func f) #[] #[]) → ev (.tmp x) = X → ev (.tmp y) = Y → (execOp ev op).run P w = res) : (execOp a.eval op).run P w = res :=
  h _ (fun _ => rfl) (fun _ => rfl) (by have := S.fx _ _ hx; rw [h1] at this; exact this) (by have := S.fx _ _ hy; rw [h2] at this; exact this)
def thenC : Code → Code
  | .cond _ x _ => x
  | x => x
def elseC : Code → Code
  | .cond _ _ y => y
  | x => x
def blockC : Code → Code
  | .block _ x => x
  | x => x
def loopC : Code → Code
  | .loop x => x
  | x => x
end Go.Proofs.Ytjmhefkmpfkpbaa
namespace Go.Proofs.Ytjmhefkmpfkpbaa
open Go.ChangeShapes Go.WideShapes Go.ChangeAt Go.RowKit
set_option linter.unusedSimpArgs false
set_option linter.unusedVariables false
set_option maxRecDepth 100000
def OwD (w : World) (B : Nat) (X : Option Addr) (c : Nat) (d : Dy) : Prop := d.ls.length ≤ c ∧ OwnR w B 52 X d.ls.length (ints .u32 d.ls)
/-- What the sum of two masses answers. -/
structure MB where
  m : Ms
  X0 : Option Addr
  c0 : Nat
  X1 : Option Addr
  c1 : Nat
  X2 : Option Addr
  c2 : Nat
  X3 : Option Addr
  c3 : Nat
def OwM (w : World) (B : Nat) (o : MB) : Prop := OwD w B o.X0 o.c0 o.m.s ∧ OwD w B o.X1 o.c1 o.m.w ∧ OwD w B o.X2 o.c2 o.m.c ∧ OwD w B o.X3 o.c3 o.m.a
theorem OwD.base_le {w : World} {B b c : Nat} {X : Option Addr} {d : Dy} (h : OwD w B X c d) (hb : b ≤ B) : OwD w b X c d := ⟨h.1, h.2.base_le hb⟩
theorem OwD.rd {w : World} {B c : Nat} {X : Option Addr} {d : Dy} (h : OwD w B X c d) : RdD w w.heap.size d.neg X d.ls.length c d.ex d := ⟨rfl, rfl, rfl, h.1, h.2.reads⟩
/-- A mass that is read. -/
abbrev RdO (w : World) (o : MB) : Prop := RdM w w.heap.size o.m.s.neg o.X0 o.m.s.ls.length o.c0 o.m.s.ex o.m.w.neg o.X1 o.m.w.ls.length o.c1 o.m.w.ex o.m.c.neg o.X2 o.m.c.ls.length o.c2 o.m.c.ex o.m.a.neg o.X3 o.m.a.ls.length o.c3 o.m.a.ex o.m
theorem OwM.rd {w : World} {B : Nat} {o : MB} (h : OwM w B o) : RdO w o := ⟨h.1.rd, h.2.1.rd, h.2.2.1.rd, h.2.2.2.rd⟩
theorem ownR_setRow {w : World} {base n g : Nat} {e : TypeId} {A : Option Addr} {xs : List Value} (h : OwnR w base e A n xs) (hg : g < base) (cs : Array Value) : OwnR (w.setRow g cs) base e A n xs :=
  ⟨h.1, fun h0 => by
    obtain ⟨q, cur, hA, hb, hh, ht⟩ := h.2 h0
    exact ⟨q, cur, hA, hb, Blk.setRow_far hh (by omega) cs, ht⟩⟩
theorem OwD.setRow {w : World} {B c g : Nat} {X : Option Addr} {d : Dy} (h : OwD w B X c d) (hg : g < B) (cs : Array Value) {B' : Nat} (hB : B' ≤ B) : OwD (w.setRow g cs) B' X c d := ⟨h.1, (ownR_setRow h.2 hg cs).base_le hB⟩
theorem Blk.setCells {g : Nat} {t : TypeId} : ∀ (vs : List Value) (o : Nat) (w : World) (cs : Array Value), Blk w g t cs → ∃ ds : Array Value, Blk (w.setCells g o vs) g t ds ∧ ds.size = cs.size ∧ ∀ i, ds[i]? = if o ≤ i ∧ i < o + vs.length ∧ i < cs.size then vs[i - o]? else cs[i]?
  | [], o, w, cs, h => ⟨cs, h, rfl, fun i => by rw [if_neg (by simp; omega)]⟩
  | v :: r, o, w, cs, h => by
    obtain ⟨ds, h1, h2, h3⟩ := Blk.setCells r (o + 1) _ _ (h.set_ o v)
    refine ⟨ds, by rw [World.setCells]; exact h1, by rw [h2, Array.size_setIfInBounds], fun i => ?_⟩
    rw [h3, Array.size_setIfInBounds, Array.getElem?_setIfInBounds]
    simp only [List.length_cons]
    by_cases h0 : o = i
    · subst h0
      rw [if_neg (by omega), if_pos rfl]
      by_cases hs : o < cs.size
      · rw [if_pos hs, if_pos (by omega)]; simp
      · rw [if_neg hs, if_neg (by omega), Array.getElem?_eq_none (by omega)]
    · rw [if_neg h0]
      by_cases h4 : o + 1 ≤ i ∧ i < o + 1 + r.length ∧ i < cs.size
      · rw [if_pos h4, if_pos (by omega), show i - o = (i - (o + 1)) + 1 by omega, List.getElem?_cons_succ]
      · rw [if_neg h4, if_neg (by omega)]
theorem Blk.farCells {g b : Nat} {t : TypeId} (hb : g ≠ b) : ∀ (vs : List Value) (o : Nat) (w : World) (cs : Array Value), Blk w g t cs → Blk (w.setCells b o vs) g t cs
  | [], _, _, _, h => h
  | v :: r, o, w, cs, h => by rw [World.setCells]; exact Blk.farCells hb r (o + 1) _ _ (h.far (p := ⟨b, o, none⟩) hb v)
theorem below_setCells {B b : Nat} {w0 : World} (hb : B ≤ b) : ∀ (vs : List Value) (o : Nat) (w : World), Below B w0 w → Below B w0 (w.setCells b o vs)
  | [], _, _, h => h
  | v :: r, o, w, h => by rw [World.setCells]; exact below_setCells hb r (o + 1) _ (h.setCell (p := ⟨b, o, none⟩) hb v)
theorem Blk.there {w : World} {g o n : Nat} {t : TypeId} {cs : Array Value} (h : Blk w g t cs) (hn : o + n ≤ cs.size) : w.there g o n := fun j hj => ⟨by rw [h.cell, Array.getElem?_eq_getElem (by omega)]; rfl, h.frozen _⟩
theorem OwD.below {w w' : World} {B c : Nat} {X : Option Addr} {d : Dy} (h : OwD w B X c d) (hb : Below w.heap.size w w') : OwD w' B X c d := ⟨h.1, h.2.below hb⟩
theorem OwM.below {w w' : World} {B : Nat} {o : MB} (h : OwM w B o) (hb : Below w.heap.size w w') : OwM w' B o := ⟨h.1.below hb, h.2.1.below hb, h.2.2.1.below hb, h.2.2.2.below hb⟩
theorem OwM.base_le {w : World} {B b : Nat} {o : MB} (h : OwM w B o) (hb : b ≤ B) : OwM w b o := ⟨h.1.base_le hb, h.2.1.base_le hb, h.2.2.1.base_le hb, h.2.2.2.base_le hb⟩
theorem OwD.far {w : World} {B c : Nat} {X : Option Addr} {d : Dy} (h : OwD w B X c d) {p : Addr} (hp : p.block < B) (u : Value) : OwD (w.setCell p u) B X c d := ⟨h.1, h.2.far hp u⟩
theorem OwM.far {w : World} {B : Nat} {o : MB} (h : OwM w B o) {p : Addr} (hp : p.block < B) (u : Value) : OwM (w.setCell p u) B o := ⟨h.1.far hp u, h.2.1.far hp u, h.2.2.1.far hp u, h.2.2.2.far hp u⟩
abbrev mA (o : MO) : Array Value := #[.int .u8 o.x.kd, .int .i64 o.x.fr, .int .i64 o.x.tt, .int .i64 o.x.ep, .int .i64 o.x.nu, .int .i64 o.x.ab, .bool o.x.give.s.neg, .slice o.X0 o.x.give.s.ls.length o.c0, .int .i64 o.x.give.s.ex, .bool o.x.give.w.neg, .slice o.X1 o.x.give.w.ls.length o.c1, .int .i64 o.x.give.w.ex, .bool o.x.give.c.neg, .slice o.X2 o.x.give.c.ls.length o.c2, .int .i64 o.x.give.c.ex, .bool o.x.give.a.neg, .slice o.X3 o.x.give.a.ls.length o.c3, .int .i64 o.x.give.a.ex, .bool o.x.wa, .slice o.D o.x.ds.length o.dc, .bool o.x.eh, .int .i64 o.x.e1, .int .i64 o.x.e2, .slice o.L o.x.ls.length o.lc]
abbrev oA (r : MB) : Array Value := #[.bool r.m.s.neg, .slice r.X0 r.m.s.ls.length r.c0, .int .i64 r.m.s.ex, .bool r.m.w.neg, .slice r.X1 r.m.w.ls.length r.c1, .int .i64 r.m.w.ex, .bool r.m.c.neg, .slice r.X2 r.m.c.ls.length r.c2, .int .i64 r.m.c.ex, .bool r.m.a.neg, .slice r.X3 r.m.a.ls.length r.c3, .int .i64 r.m.a.ex]
def mO (o : MO) : MB := ⟨o.x.give, o.X0, o.c0, o.X1, o.c1, o.X2, o.c2, o.X3, o.c3⟩
/-- What a mail carries. -/
theorem OwM.setRow2 {w : World} {B g : Nat} {o : MB} (h : OwM w B o) (hg : g < B) (ds : Array Value) : OwM (w.setRow g ds) B o := ⟨h.1.setRow hg ds (Nat.le_refl _), h.2.1.setRow hg ds (Nat.le_refl _), h.2.2.1.setRow hg ds (Nat.le_refl _), h.2.2.2.setRow hg ds (Nat.le_refl _)⟩
theorem rmtwL (o : MO) (hsm : smL o.x) (w : World) (hr : rdL w w.heap.size o) : Calls Try.prog 30 #[.agg #[.bool o.x.give.s.neg, .slice o.X0 o.x.give.s.ls.length o.c0, .int .i64 o.x.give.s.ex, .bool o.x.give.w.neg, .slice o.X1 o.x.give.w.ls.length o.c1, .int .i64 o.x.give.w.ex, .bool o.x.give.c.neg, .slice o.X2 o.x.give.c.ls.length o.c2, .int .i64 o.x.give.c.ex, .bool o.x.give.a.neg, .slice o.X3 o.x.give.a.ls.length o.c3, .int .i64 o.x.give.a.ex]] w fun en w' => ∃ r : MB, r.m = o.x.give ∧ en = .returned (.agg (oA r)) ∧ OwM w' w.heap.size r ∧ Below w.heap.size w w' := by
  refine (rmtwin_anyT o.x.give.s.neg o.X0 o.x.give.s.ls.length o.c0 o.x.give.s.ex o.x.give.w.neg o.X1 o.x.give.w.ls.length o.c1 o.x.give.w.ex o.x.give.c.neg o.X2 o.x.give.c.ls.length o.c2 o.x.give.c.ex o.x.give.a.neg o.X3 o.x.give.a.ls.length o.c3 o.x.give.a.ex o.x.give hsm.1 w hr.1).mono ?_
  rintro en w' h
  obtain ⟨Y0, k0, Y1, k1, Y2, k2, Y3, k3, rfl, ⟨l0, o0⟩, ⟨l1, o1⟩, ⟨l2, o2⟩, ⟨l3, o3⟩, hb⟩ := h
  exact ⟨⟨o.x.give, Y0, k0, Y1, k1, Y2, k2, Y3, k3⟩, rfl, rfl, ⟨⟨l0, o0⟩, ⟨l1, o1⟩, ⟨l2, o2⟩, ⟨l3, o3⟩⟩, hb⟩
theorem T2_oneU (l : List Tm) : ∀ u ∈ T2 l, u.oneCell' = true := by
  intro u hu
  obtain ⟨t, _, ht⟩ := List.mem_flatMap.1 hu
  simp [vT] at ht
  rcases ht with rfl | rfl <;> rfl
open Go.Shelf
theorem infoD : (Try.prog.info? 73).map (fun i => (i.zero, i.size, i.bytes)) = some (some (.agg #[.int .i64 0, .int .i64 0]), 2, 16) := by kernel_rfl
set_option maxRecDepth 100000
/-- Cells written in a row. -/
def setL (cs : Array Value) : Nat → List Value → Array Value
  | _, [] => cs
  | o, v :: r => setL (cs.setIfInBounds o v) (o + 1) r
theorem Blk.setL {g : Nat} {t : TypeId} : ∀ (vs : List Value) (o : Nat) (w : World) (cs : Array Value), Blk w g t cs → Blk (w.setCells g o vs) g t (setL cs o vs)
  | [], _, _, _, h => h
  | v :: r, o, w, cs, h => by rw [World.setCells]; exact Blk.setL r (o + 1) _ _ (h.set_ o v)
theorem OwM.setCells {g B : Nat} {o : MB} (hg : g < B) : ∀ (vs : List Value) (i : Nat) (w : World), OwM w B o → OwM (w.setCells g i vs) B o
  | [], _, _, h => h
  | v :: r, i, w, h => by rw [World.setCells]; exact OwM.setCells hg r (i + 1) _ (h.far (p := ⟨g, i, none⟩) hg v)
theorem own_row {w : World} {base size n : Nat} {e : TypeId} {v : Value} {xs : List Value} (h : w.ownsRow base e size v n xs) {k : Nat} (hk : k < base) (ds : Array Value) : (w.setRow k ds).ownsRow base e size v n xs :=
  ⟨h.1, h.2.imp id fun ⟨g, c, cur, e1, h1, h2, r⟩ => ⟨g, c, cur, e1, h1, Blk.setRow_far (show Blk w g e cur from h2) (by omega) ds, r⟩⟩
/-- A mail whose rows are a call's own. -/
def OwL (w : World) (B : Nat) (r : MO) : Prop := OwM w B (mO r) ∧ w.ownsRow B 73 2 (.slice r.D r.x.ds.length r.dc) r.x.ds.length (T2 r.x.ds) ∧ w.ownsRow B 52 1 (.slice r.L r.x.ls.length r.lc) r.x.ls.length (ints .u32 r.x.ls)
theorem OwL.below {w w' : World} {B : Nat} {r : MO} (h : OwL w B r) (hb : Below w.heap.size w w') : OwL w' B r := ⟨h.1.below hb, own_below h.2.1 hb, own_below h.2.2 hb⟩
theorem OwL.setRow {w : World} {B g : Nat} {r : MO} (h : OwL w B r) (hg : g < B) (ds : Array Value) : OwL (w.setRow g ds) B r := ⟨h.1.setRow2 hg ds, own_row h.2.1 hg ds, own_row h.2.2 hg ds⟩
theorem OwL.rd {w : World} {B : Nat} {r : MO} (h : OwL w B r) : rdL w w.heap.size r := ⟨OwM.rd h.1, ⟨rfl, Reads.of_own h.2.1⟩, Reads.of_own h.2.2⟩
theorem setL_mass (o : MO) (Y0 Y1 Y2 Y3 : Option Addr) (z0 z1 z2 z3 : Nat) : setL (mA o) 6 (oA ⟨o.x.give, Y0, z0, Y1, z1, Y2, z2, Y3, z3⟩).toList = mA ⟨o.x, Y0, z0, Y1, z1, Y2, z2, Y3, z3, o.D, o.dc, o.L, o.lc⟩ := by
  simp [setL]
set_option maxHeartbeats 16000000 in
theorem rltwin_any (o : MO) (hsm : smL o.x) (w : World) (hr : rdL w w.heap.size o) : Calls Try.prog 12 #[aggL o] w fun en w' => ∃ r : MO, r.x = o.x ∧ en = .returned (aggL r) ∧ OwL w' w.heap.size r ∧ Below w.heap.size w w' := by
  obtain ⟨V, hV⟩ : ∃ V, V = (w.alloc (.cells (mA o) 31)).alloc (.cells #[.int .u8 0, .int .i64 0, .int .i64 0, .int .i64 0, .int .i64 0, .int .i64 0, .bool false, .slice none 0 0, .int .i64 0, .bool false, .slice none 0 0, .int .i64 0, .bool false, .slice none 0 0, .int .i64 0, .bool false, .slice none 0 0, .int .i64 0, .bool false, .slice none 0 0, .bool false, .int .i64 0, .int .i64 0, .slice none 0 0] 31) := ⟨_, rfl⟩
  have hB : Below w.heap.size w V := by rw [hV]; exact ((Below.refl _ _).alloc (Nat.le_refl _) _).alloc (by simp) _
  have kb : Blk V w.heap.size 31 (mA o) := by rw [hV]; exact (Blk.new w _ _).alloc _
  have kr : Blk V (w.heap.size + 1) 31 #[.int .u8 0, .int .i64 0, .int .i64 0, .int .i64 0, .int .i64 0, .int .i64 0, .bool false, .slice none 0 0, .int .i64 0, .bool false, .slice none 0 0, .int .i64 0, .bool false, .slice none 0 0, .int .i64 0, .bool false, .slice none 0 0, .int .i64 0, .bool false, .slice none 0 0, .bool false, .int .i64 0, .int .i64 0, .slice none 0 0] := by rw [hV]; simpa using Blk.new (w.alloc (.cells (mA o) 31)) 31 #[.int .u8 0, .int .i64 0, .int .i64 0, .int .i64 0, .int .i64 0, .int .i64 0, .bool false, .slice none 0 0, .int .i64 0, .bool false, .slice none 0 0, .int .i64 0, .bool false, .slice none 0 0, .int .i64 0, .bool false, .slice none 0 0, .int .i64 0, .bool false, .slice none 0 0, .bool false, .int .i64 0, .int .i64 0, .slice none 0 0]
  change Calls Try.prog 12 #[.agg (mA o)] w _
  have hd5 := hsm.2.1
  have hl5 := hsm.2.2
  go_enter Try.func12, Try.ntmps12
  go_upto_region 1 with (fail)
  rename_i Q0 K1 k1
  rw [← hV]
  clear hV
  refine wp_region_lit ?_
  refine wpList_abs2 18 1 2 (.pointer (some ⟨w.heap.size, 0, none⟩)) (.pointer (some ⟨(w.heap.size + 1), 0, none⟩)) rfl rfl rfl rfl ?_
  intro a S
  refine sx1 1 S (.pointer (some ⟨w.heap.size, 6, none⟩)) (wantN rfl _) rfl (fun _ => rfl) (fun ev ec e => by go_simp; try rfl) ?_; intro a S
  refine sx1 3 S (.agg #[.bool o.x.give.s.neg, .slice o.X0 o.x.give.s.ls.length o.c0, .int .i64 o.x.give.s.ex, .bool o.x.give.w.neg, .slice o.X1 o.x.give.w.ls.length o.c1, .int .i64 o.x.give.w.ex, .bool o.x.give.c.neg, .slice o.X2 o.x.give.c.ls.length o.c2, .int .i64 o.x.give.c.ex, .bool o.x.give.a.neg, .slice o.X3 o.x.give.a.ls.length o.c3, .int .i64 o.x.give.a.ex]) (wantN rfl _) rfl (fun _ => rfl) (fun ev ec e => run_load_mid 26 _ rfl _ 6 e [.bool o.x.give.s.neg, .slice o.X0 o.x.give.s.ls.length o.c0, .int .i64 o.x.give.s.ex, .bool o.x.give.w.neg, .slice o.X1 o.x.give.w.ls.length o.c1, .int .i64 o.x.give.w.ex, .bool o.x.give.c.neg, .slice o.X2 o.x.give.c.ls.length o.c2, .int .i64 o.x.give.c.ex, .bool o.x.give.a.neg, .slice o.X3 o.x.give.a.ls.length o.c3, .int .i64 o.x.give.a.ex] _ (kb.range 6 _ rfl) Try.underlying26 rfl (by kernel_rfl)) ?_; intro a S
  refine sxK 4 S 30 (fun u w' => ∃ r : MB, r.m = o.x.give ∧ u = .agg (oA r) ∧ OwM w' V.heap.size r ∧ Below V.heap.size V w') rfl (fun ev ef e => by go_simp; try rfl) ((rmtwL o hsm V (hr.below hB hB.size)).mono (fun en w' ⟨r, h1, h2, h3⟩ => ⟨_, h2, r, h1, rfl, h3⟩)) ?_
  intro a w1 u ⟨r, hr1, hu, us, hb1⟩ S
  subst hu
  have s0 := hB.size
  have sr := kr.lt
  replace kb := kb.below hb1 kb.lt
  replace kr := kr.below hb1 kr.lt
  replace hB := hB.trans (hb1.mono hB.size)
  refine sx1 1 S (.pointer (some ⟨w.heap.size, 6, none⟩)) (wantN rfl _) rfl (fun _ => rfl) (fun ev ec e => by go_simp; try rfl) ?_; intro a S
  refine wpList_store_mid rfl 26 (.tmp 6) (.tmp 5) rfl w.heap.size 6 (oA r) (S.fx 6 _ rfl) (S.fx 5 _ rfl) (kb.there (by simp)) (by kernel_rfl) (by simp [Value.oneCell']) ?_
  replace S := S.none_ (v := undef)
  replace kb := Blk.setL (oA r).toList 6 _ _ kb
  replace kr := Blk.farCells (show w.heap.size + 1 ≠ w.heap.size by omega) (oA r).toList 6 _ _ kr
  replace hB := below_setCells (Nat.le_refl _) (oA r).toList 6 _ hB
  replace us := us.setCells (show w.heap.size < V.heap.size by omega) (oA r).toList 6
  obtain ⟨W2, hW2⟩ : ∃ W2, W2 = w1.setCells w.heap.size 6 (oA r).toList := ⟨_, rfl⟩
  rw [← hW2] at kb kr hB us ⊢
  clear hW2
  obtain ⟨m, Y0, z0, Y1, z1, Y2, z2, Y3, z3⟩ := r
  simp only at hr1
  subst hr1
  replace kb : Blk W2 w.heap.size 31 (mA ⟨o.x, Y0, z0, Y1, z1, Y2, z2, Y3, z3, o.D, o.dc, o.L, o.lc⟩) := by
    rw [← setL_mass o Y0 Y1 Y2 Y3 z0 z1 z2 z3]
    exact kb
  refine wpList_nil ?_
  refine k1 _ _ ?_
  refine wp_seq (wp_region_lit ?_)
  refine sxW S (.slice (some ⟨W2.heap.size, 0, none⟩) 0 0) (W2.alloc (.cells #[] 73)) (wantN rfl _) (by go_simp; try rfl) ?_; intro a S
  have hown3 : (W2.alloc (.cells #[] 73)).ownsRow W2.heap.size 73 2 (.slice (some ⟨W2.heap.size, 0, none⟩) 0 0) 0 [] := ⟨by simp, .inr ⟨W2.heap.size, 0, #[], rfl, Nat.le_refl _, heap_alloc_new W2 _, Nat.le_refl _, Nat.zero_le _, by simp, by simp⟩⟩
  have hb3 := (Below.refl W2.heap.size W2).alloc (Nat.le_refl _) (.cells #[] 73)
  have lt3 := kr.lt
  have ka := kb.alloc (.cells #[] 73)
  refine sx1 1 S (.pointer (some ⟨w.heap.size, 19, none⟩)) (wantN rfl _) rfl (fun _ => rfl) (fun ev ec e => by go_simp; try rfl) ?_; intro a S
  refine sx1 8 S (.slice o.D o.x.ds.length o.dc) (wantN rfl _) rfl (fun _ => rfl) (fun ev ec e => by have s0 := ka.cell 19; simp at s0; go_simp; try rfl) ?_; intro a S
  clear ka
  obtain ⟨i3, hi3, hz3, hy3, hw3⟩ := info_parts infoD
  refine wpList_append_any _ rfl (.tmp 7) (.tmp 9) 27 rfl W2.heap.size 73 i3 _ 2 16 Try.underlying27 hi3 hz3 hy3 hw3 rfl (by omega) (.slice (some ⟨W2.heap.size, 0, none⟩) 0 0) 0 [] (S.fx 7 _ rfl) hown3 w.heap.size o.D o.x.ds.length o.dc (T2 o.x.ds) (S.fx 9 _ rfl) ((hr.2.1.2.below hB).alloc hB.size _) (T2_oneU _) (by unfold maxLen; omega) (by omega) (by rw [World.size_alloc]; omega) ?_
  intro v3 w3 ho3 hg3 _
  rw [Nat.zero_add, List.nil_append] at ho3
  obtain ⟨A3, c3, rfl, hc3, _⟩ := own_slice ho3
  replace S := S.put (d := 10) (.slice A3 o.x.ds.length c3) (by decide)
  replace hb3 := hb3.grown hg3 (by rw [World.size_alloc]; omega) (fun g hq => by simp [Value.ownBlock] at hq; omega)
  replace kb := kb.below hb3 kb.lt
  replace kr := kr.below hb3 kr.lt
  replace hB := hB.trans (hb3.mono hB.size)
  refine sx1 1 S (.pointer (some ⟨w.heap.size, 19, none⟩)) (wantN rfl _) rfl (fun _ => rfl) (fun ev ec e => by go_simp; try rfl) ?_; intro a S
  have hf3 := kb.frozen 19
  have hz13 := kb.cell 19
  simp at hz13
  refine sxS (x := 11) (y := 10) S (w3.setCell ⟨w.heap.size, 19, none⟩ (.slice A3 o.x.ds.length c3)) rfl rfl (fun ev e e2 => by go_simp; try rfl) ?_
  clear hf3 hz13 hg3
  intro a S
  replace kb : Blk (w3.setCell ⟨w.heap.size, 19, none⟩ (.slice A3 o.x.ds.length c3)) w.heap.size 31 (mA ⟨o.x, Y0, z0, Y1, z1, Y2, z2, Y3, z3, A3, c3, o.L, o.lc⟩) := by have h := kb.set_ 19 (.slice A3 o.x.ds.length c3); simpa using h
  replace kr := kr.far (p := ⟨w.heap.size, 19, none⟩) (by simp) (.slice A3 o.x.ds.length c3)
  replace hB := hB.setCell (p := ⟨w.heap.size, 19, none⟩) (Nat.le_refl _) (.slice A3 o.x.ds.length c3)
  replace ho3 := own_set ho3 (p := ⟨w.heap.size, 19, none⟩) (show w.heap.size < W2.heap.size by omega) (.slice A3 o.x.ds.length c3)
  replace us := (us.below hb3).far (p := ⟨w.heap.size, 19, none⟩) (show w.heap.size < V.heap.size by omega) (.slice A3 o.x.ds.length c3)
  obtain ⟨W3, hW3⟩ : ∃ W3, W3 = w3.setCell ⟨w.heap.size, 19, none⟩ (.slice A3 o.x.ds.length c3) := ⟨_, rfl⟩
  rw [← hW3] at kb kr hB us ho3 ⊢
  clear hW3
  refine wpList_nil ?_
  show Code.wp _ _ _ _ _
  refine wp_seq (wp_region_lit ?_)
  refine sxW S (.slice (some ⟨W3.heap.size, 0, none⟩) 0 0) (W3.alloc (.cells #[] 52)) (wantN rfl _) (by go_simp; try rfl) ?_; intro a S
  have hown4 : (W3.alloc (.cells #[] 52)).ownsRow W3.heap.size 52 1 (.slice (some ⟨W3.heap.size, 0, none⟩) 0 0) 0 [] := ⟨by simp, .inr ⟨W3.heap.size, 0, #[], rfl, Nat.le_refl _, heap_alloc_new W3 _, Nat.le_refl _, Nat.zero_le _, by simp, by simp⟩⟩
  have hb4 := (Below.refl W3.heap.size W3).alloc (Nat.le_refl _) (.cells #[] 52)
  have lt4 := kr.lt
  have ka := kb.alloc (.cells #[] 52)
  refine sx1 1 S (.pointer (some ⟨w.heap.size, 23, none⟩)) (wantN rfl _) rfl (fun _ => rfl) (fun ev ec e => by go_simp; try rfl) ?_; intro a S
  refine sx1 13 S (.slice o.L o.x.ls.length o.lc) (wantN rfl _) rfl (fun _ => rfl) (fun ev ec e => by have s0 := ka.cell 23; simp at s0; go_simp; try rfl) ?_; intro a S
  clear ka
  obtain ⟨i4, hi4, hz4, hy4, hw4⟩ := info_parts infoU32
  refine wpList_append_any _ rfl (.tmp 12) (.tmp 14) 22 rfl W3.heap.size 52 i4 _ 1 4 Try.underlying22 hi4 hz4 hy4 hw4 rfl (by omega) (.slice (some ⟨W3.heap.size, 0, none⟩) 0 0) 0 [] (S.fx 12 _ rfl) hown4 w.heap.size o.L o.x.ls.length o.lc (ints .u32 o.x.ls) (S.fx 14 _ rfl) ((hr.2.2.below hB).alloc hB.size _) (ints_one _ _) (by unfold maxLen; omega) (by omega) (by rw [World.size_alloc]; omega) ?_
  intro v4 w4 ho4 hg4 _
  rw [Nat.zero_add, List.nil_append] at ho4
  obtain ⟨A4, c4, rfl, hc4, _⟩ := own_slice ho4
  replace S := S.put (d := 15) (.slice A4 o.x.ls.length c4) (by decide)
  replace hb4 := hb4.grown hg4 (by rw [World.size_alloc]; omega) (fun g hq => by simp [Value.ownBlock] at hq; omega)
  replace kb := kb.below hb4 kb.lt
  replace kr := kr.below hb4 kr.lt
  replace hB := hB.trans (hb4.mono hB.size)
  refine sx1 1 S (.pointer (some ⟨w.heap.size, 23, none⟩)) (wantN rfl _) rfl (fun _ => rfl) (fun ev ec e => by go_simp; try rfl) ?_; intro a S
  have hf4 := kb.frozen 23
  have hz14 := kb.cell 23
  simp at hz14
  refine sxS (x := 16) (y := 15) S (w4.setCell ⟨w.heap.size, 23, none⟩ (.slice A4 o.x.ls.length c4)) rfl rfl (fun ev e e2 => by go_simp; try rfl) ?_
  clear hf4 hz14 hg4
  intro a S
  replace kb : Blk (w4.setCell ⟨w.heap.size, 23, none⟩ (.slice A4 o.x.ls.length c4)) w.heap.size 31 (mA ⟨o.x, Y0, z0, Y1, z1, Y2, z2, Y3, z3, A3, c3, A4, c4⟩) := by have h := kb.set_ 23 (.slice A4 o.x.ls.length c4); simpa using h
  replace kr := kr.far (p := ⟨w.heap.size, 23, none⟩) (by simp) (.slice A4 o.x.ls.length c4)
  replace hB := hB.setCell (p := ⟨w.heap.size, 23, none⟩) (Nat.le_refl _) (.slice A4 o.x.ls.length c4)
  replace ho4 := own_set ho4 (p := ⟨w.heap.size, 23, none⟩) (show w.heap.size < W3.heap.size by omega) (.slice A4 o.x.ls.length c4)
  replace us := (us.below hb4).far (p := ⟨w.heap.size, 23, none⟩) (show w.heap.size < V.heap.size by omega) (.slice A4 o.x.ls.length c4)
  replace ho3 := own_set (own_below ho3 hb4) (p := ⟨w.heap.size, 23, none⟩) (show w.heap.size < W2.heap.size by omega) (.slice A4 o.x.ls.length c4)
  obtain ⟨W4, hW4⟩ : ∃ W4, W4 = w4.setCell ⟨w.heap.size, 23, none⟩ (.slice A4 o.x.ls.length c4) := ⟨_, rfl⟩
  rw [← hW4] at kb kr hB us ho3 ho4 ⊢
  clear hW4
  refine wpList_nil ?_
  show Code.wp _ _ _ _ _
  refine wp_seq (wp_region_lit ?_)
  refine wpList_load_row rfl 31 (.tmp 1) rfl w.heap.size (S.fx 1 _ rfl) 31 (mA ⟨o.x, Y0, z0, Y1, z1, Y2, z2, Y3, z3, A3, c3, A4, c4⟩) (0, 0) _ ?_ Try.underlying31 rfl (by kernel_rfl) ?_
  exact kb.row
  replace S := S.put (d := 17) (.agg (mA ⟨o.x, Y0, z0, Y1, z1, Y2, z2, Y3, z3, A3, c3, A4, c4⟩)) (by decide)
  refine wpList_store_row rfl 31 (.tmp 2) (.tmp 17) rfl (w.heap.size + 1) (mA ⟨o.x, Y0, z0, Y1, z1, Y2, z2, Y3, z3, A3, c3, A4, c4⟩) (S.fx 2 _ rfl) (S.fx 17 _ rfl) 31 _ kr.row (by kernel_rfl) rfl (by simp [Value.oneCell']) ?_
  replace S := S.none_ (v := undef)
  have kz := kr.setRow (mA ⟨o.x, Y0, z0, Y1, z1, Y2, z2, Y3, z3, A3, c3, A4, c4⟩)
  refine wpList_nil ?_
  show Code.wp _ _ _ _ _
  refine wp_ret ?_
  change Q0 .ret _ _
  refine bodyPost_ret (results_cell_row rfl _ _ (w.heap.size + 1) 31 (mA ⟨o.x, Y0, z0, Y1, z1, Y2, z2, Y3, z3, A3, c3, A4, c4⟩) (0, 0) _ (S.fx 2 _ rfl) kz.row Try.underlying31 rfl (by kernel_rfl)) S.df ?_
  have hlt := kr.lt
  have hBz := below_setRow (g := w.heap.size + 1) hB (by omega) (mA ⟨o.x, Y0, z0, Y1, z1, Y2, z2, Y3, z3, A3, c3, A4, c4⟩)
  have hus := us.setRow2 (g := w.heap.size + 1) (by omega) (mA ⟨o.x, Y0, z0, Y1, z1, Y2, z2, Y3, z3, A3, c3, A4, c4⟩)
  exact ⟨⟨o.x, Y0, z0, Y1, z1, Y2, z2, Y3, z3, A3, c3, A4, c4⟩, rfl, rfl, ⟨hus.base_le (by omega), own_base_leU (own_row ho3 (show w.heap.size + 1 < W2.heap.size by omega) _) (by omega), own_base_leU (own_row ho4 (show w.heap.size + 1 < W3.heap.size by omega) _) (by omega)⟩, hBz⟩
end Go.Proofs.Ytjmhefkmpfkpbaa
namespace Go.Proofs.Ytjmhefkmpfkpbaa
open Go.ChangeShapes Go.WideShapes Go.ChangeAt Go.RowKit
set_option linter.unusedSimpArgs false
set_option linter.unusedVariables false
set_option maxRecDepth 100000
abbrev z24 : Array Value := #[.int .u8 0, .int .i64 0, .int .i64 0, .int .i64 0, .int .i64 0, .int .i64 0, .bool false, .slice none 0 0, .int .i64 0, .bool false, .slice none 0 0, .int .i64 0, .bool false, .slice none 0 0, .int .i64 0, .bool false, .slice none 0 0, .int .i64 0, .bool false, .slice none 0 0, .bool false, .int .i64 0, .int .i64 0, .slice none 0 0]
theorem rdv_size (A : Option Addr) (n c : Nat) (st : Option Nat) : (rdv A n c st).size = 3 := by cases st <;> rfl
theorem rdv_one (A : Option Addr) (n c : Nat) (st : Option Nat) : (rdv A n c st).all (·.oneCell') = true := by cases st <;> simp [rdv, Value.oneCell']
theorem rdv_ok (A : Option Addr) (n c : Nat) (st : Option Nat) : (rdv A n c st)[2]? = some (.bool st.isSome) := by cases st <;> rfl
theorem rD_leU {l : List Int} {st : Option Nat} : ∀ p, (rD l st).1 = some p → p ≤ l.length := fun p h => by
  unfold rD at h
  cases st with
  | none => simp at h
  | some q =>
    simp only at h
    split at h
    · rename_i hd
      simp at h
      subst h
      unfold dyE at hd
      split at hd
      · omega
      split at hd
      · omega
      split at hd
      · omega
      simp only [Int.toNat_natCast] at *
      omega
    · simp at h
theorem ints_snocU (k : IntKind) (l : List Nat) (x : Nat) : ints k l ++ [.int k (x : Int)] = ints k (l ++ [x]) := by simp [ints]
/-- What is read. -/
structure OfI (w0 : World) (A : Option Addr) (n c : Nat) (L : List Int) : Prop where
  hn : L.length = n
  hb : ∀ b ∈ L, 0 ≤ b ∧ b < 256
  hm : n ≤ 100000
  hc : n ≤ c
  hA : A = none → c = 0
  hR : Reads w0 w0.heap.size 1 A n (u8s L)
/-- How far it is. -/
structure OfT (w0 : World) (A : Option Addr) (n c : Nat) (cs : Array Value) (st : Option Nat) (w : World) : Prop where
  hB : Below w0.heap.size w0 w
  k4 : Blk w w0.heap.size 31 z24
  k6 : Blk w (w0.heap.size + 1) 31 cs
  k7 : Blk w (w0.heap.size + 2) 110 (rdv A n c st)
  le : ∀ p, st = some p → p ≤ n
structure OfS (w0 : World) (A : Option Addr) (n c : Nat) (r : MO) (st : Option Nat) (w : World) : Prop extends OfT w0 A n c (mA r) st w where
  ow : OwL w (w0.heap.size + 3) r
theorem OfS.below {w0 w w' : World} {A : Option Addr} {n c : Nat} {r : MO} {st : Option Nat} (H : OfS w0 A n c r st w) (hb : Below w.heap.size w w') : OfS w0 A n c r st w' :=
  ⟨⟨H.hB.trans (hb.mono H.hB.size), H.k4.below hb H.k4.lt, H.k6.below hb H.k6.lt, H.k7.below hb H.k7.lt, H.le⟩, H.ow.below hb⟩
theorem OwL.farU {w : World} {B : Nat} {r : MO} (h : OwL w B r) {p : Addr} (hp : p.block < B) (u : Value) : OwL (w.setCell p u) B r := ⟨OwM.far h.1 hp u, own_set h.2.1 hp u, own_set h.2.2 hp u⟩
theorem OwL.setCells {g B : Nat} {r : MO} (hg : g < B) : ∀ (vs : List Value) (i : Nat) (w : World), OwL w B r → OwL (w.setCells g i vs) B r
  | [], _, _, h => h
  | v :: vs, i, w, h => OwL.setCells hg vs (i + 1) _ (h.farU (p := ⟨g, i, none⟩) hg v)
theorem OwD.one (w : World) (B : Nat) : OwD w B none 0 ⟨false, [], 0⟩ := ⟨Nat.le_refl _, OwnR.none_⟩
theorem OfS.reader {w0 w w' : World} {A : Option Addr} {n c : Nat} {r : MO} {st st' : Option Nat} (H : OfS w0 A n c r st w) (hb : Below w.heap.size w w') (hle : ∀ p, st' = some p → p ≤ n) : OfS w0 A n c r st' (w'.setRow (w0.heap.size + 2) (rdv A n c st')) := by
  have H2 := H.below hb
  exact ⟨⟨below_setRow H2.hB (by omega) _, H2.k4.setRow_far (by omega) _, H2.k6.setRow_far (by omega) _, H2.k7.setRow _, hle⟩, H2.ow.setRow (by omega) _⟩
section
variable {w0 w : World} {A : Option Addr} {n c : Nat} {L : List Int} {r : MO} {st : Option Nat} {ops : Array Oper} {Q : Exit → Act → World → Prop} {a : Act} {rest : List Oper} {l : List (Nat × Value)}
abbrev pt (w0 : World) (k : Nat) : Value := .pointer (some ⟨w0.heap.size + k, 0, none⟩)
theorem ofN {b : Nat} {ts : Array TypeId} {y1 y2 y3 y4 y5 y6 : Nat} {s1 s2 s3 s4 s5 s6 : String} {f1 f2 f3 f4 f5 f6 : Array Go.Edge} (s : Nat) {j : Int} (I : OfI w0 A n c L) (H : OfS w0 A n c r st w) (S : Sx a 205 l)
    (h : ∀ (a' : Act) (w' : World), Sx a' 205 ((b + 4, gv true (.int .i64 (rN L st s).2)) :: l) → OfS w0 A n c r (rN L st s).1 w' → (∀ {g : Nat} {t : TypeId} {cs : Array Value}, g ≠ w0.heap.size + 2 → Blk w g t cs → Blk w' g t cs) → wpList Try.prog ops Q rest a' w')
    (h1 : 1 ≤ s := by decide) (h4 : s ≤ 4 := by decide) (hj : j = (s : Int) := by rfl) (h7 : l.lookup 7 = some (gv true (pt w0 2)) := by rfl) (hl : (l.map (·.1)).all (· < b) = true := by rfl) (hn : b + 4 < 205 := by decide) :
    wpList Try.prog ops Q (⟨some (b + 1), .load 110 (.tmp 7), y1, s1, f1, none⟩ :: ⟨some (b + 2), .call { callee := .value (.func 71), args := #[.tmp (b + 1), .const (.int .i64 j)], argTypes := ts }, y2, s2, f2, none⟩ :: ⟨some b, .move (.tmp (b + 2)), y3, s3, f3, none⟩ :: ⟨some (b + 3), .extract (.tmp b) 0, y4, s4, f4, none⟩ :: ⟨some (b + 4), .extract (.tmp b) 1, y5, s5, f5, none⟩ :: ⟨none, .store 110 (.tmp 7) (.tmp (b + 3)), y6, s6, f6, none⟩ :: rest) a w := by
  subst hj
  refine num6 S h7 hl hn H.k7 Try.underlying110 rfl (by rw [rdv_size]; kernel_rfl) (fun X Y w' => X = rdv A n c (rN L st s).1 ∧ Y = .int .i64 (rN L st s).2 ∧ Below w.heap.size w w') rfl rfl (fun ev ec ef e => by go_simp; try rfl)
    ((rnumber_any A n c L I.hn I.hb I.hm I.hc st H.le s h1 h4 w ((I.hR.below H.hB).more H.hB.size)).mono (fun en w' hh => ⟨_, _, hh.1, rfl, rfl, hh.2⟩)) (fun X Y w' hh => by obtain ⟨rfl, rfl, hb⟩ := hh; exact ⟨by rw [rdv_size, rdv_size], rdv_one .., hb⟩) ?_
  rintro a' w' X Y ⟨rfl, rfl, hb⟩ S
  exact h _ _ S (H.reader hb (fun p hp => by have := rN_le p hp; rw [I.hn] at this; exact this)) (fun hg hk => (hk.below hb hk.lt).setRow_far hg _)
theorem ofD {b : Nat} {ts : Array TypeId} {y1 y2 y3 y4 y5 y6 : Nat} {s1 s2 s3 s4 s5 s6 : String} {f1 f2 f3 f4 f5 f6 : Array Go.Edge} (I : OfI w0 A n c L) (H : OfS w0 A n c r st w) (S : Sx a 205 l)
    (h : ∀ (a' : Act) (w' : World) (X : Option Addr) (cc : Nat), Sx a' 205 ((b + 4, gv true (.agg #[.bool (rD L st).2.neg, .slice X (rD L st).2.ls.length cc, .int .i64 (rD L st).2.ex])) :: l) → OfS w0 A n c r (rD L st).1 w' → OwD w' (w0.heap.size + 3) X cc (rD L st).2 → wpList Try.prog ops Q rest a' w')
    (h7 : l.lookup 7 = some (gv true (pt w0 2)) := by rfl) (hl : (l.map (·.1)).all (· < b) = true := by rfl) (hn : b + 4 < 205 := by decide) :
    wpList Try.prog ops Q (⟨some (b + 1), .load 110 (.tmp 7), y1, s1, f1, none⟩ :: ⟨some (b + 2), .call { callee := .value (.func 72), args := #[.tmp (b + 1)], argTypes := ts }, y2, s2, f2, none⟩ :: ⟨some b, .move (.tmp (b + 2)), y3, s3, f3, none⟩ :: ⟨some (b + 3), .extract (.tmp b) 0, y4, s4, f4, none⟩ :: ⟨some (b + 4), .extract (.tmp b) 1, y5, s5, f5, none⟩ :: ⟨none, .store 110 (.tmp 7) (.tmp (b + 3)), y6, s6, f6, none⟩ :: rest) a w := by
  refine num6 S h7 hl hn H.k7 Try.underlying110 rfl (by rw [rdv_size]; kernel_rfl) (fun X Y w' => X = rdv A n c (rD L st).1 ∧ Below w.heap.size w w' ∧ ∃ Z cc, Y = .agg #[.bool (rD L st).2.neg, .slice Z (rD L st).2.ls.length cc, .int .i64 (rD L st).2.ex] ∧ OwD w' w.heap.size Z cc (rD L st).2) rfl rfl (fun ev ec ef e => by go_simp; try rfl)
    ((rdyad_any A n c L I.hn I.hb I.hm I.hc I.hA st w ((I.hR.below H.hB).more H.hB.size)).mono (fun en w' hh => by
      obtain ⟨Z, cc, he, ho, hb⟩ := hh
      obtain ⟨Z', cc', e, hcc, _⟩ := own_slice ho
      injection e with e1 e2 e3
      subst e1 e3
      exact ⟨_, _, he, rfl, hb, Z, cc, rfl, hcc, OwnR.of_row ho⟩)) (fun X Y w' hh => by obtain ⟨rfl, hb, _⟩ := hh; exact ⟨by rw [rdv_size, rdv_size], rdv_one .., hb⟩) ?_
  rintro a' w' X Y ⟨rfl, hb, Z, cc, rfl, ho⟩ S
  have hz := H.k7.lt
  exact h _ _ Z cc S (H.reader hb (fun p hp => by have := rD_leU p hp; rw [I.hn] at this; exact this)) (ho.setRow (by omega) _ (by omega))
/-- A cell of the mail is stored. -/
theorem ofC {x y off : Nat} {cs : Array Value} {T : TypeId} {v : Value} {y1 : Nat} {s1 : String} {f1 : Array Go.Edge} (r' : MO) (H : OfT w0 A n c cs st w) (S : Sx a 205 l)
    (h : ∀ (a' : Act) (w' : World), Sx a' 205 l → OfS w0 A n c r' st w' → (∀ {g : Nat} {t : TypeId} {cs : Array Value}, g ≠ w0.heap.size + 1 → Blk w g t cs → Blk w' g t cs) → wpList Try.prog ops Q rest a' w')
    (ho : OwL w (w0.heap.size + 3) r') (hm : cs.setIfInBounds off v = mA r' := by rfl) (h1 : v.oneCell' = true := by rfl) (hi : (Try.prog.info? T).map (·.size) = some 1 := by kernel_rfl)
    (hx : l.lookup x = some (gv true (.pointer (some ⟨w0.heap.size + 1, off, none⟩))) := by rfl) (hy : l.lookup y = some (gv true v) := by rfl) (hoff : off < 24 := by decide) (hs : cs.size = 24 := by rfl) :
    wpList Try.prog ops Q (⟨none, .store T (.tmp x) (.tmp y), y1, s1, f1, none⟩ :: rest) a w := by
  refine sxS (x := x) (y := y) S (w.setCell ⟨w0.heap.size + 1, off, none⟩ v) hx hy (fun ev e e2 => run_store_cell _ _ rfl e e2 H.k6 (by rw [hs]; exact hoff) h1 hi) ?_
  intro a S
  have hz := H.k7.lt
  refine h _ _ S ⟨⟨H.hB.setCell (by show w0.heap.size ≤ w0.heap.size + 1; omega) _, H.k4.far (by show w0.heap.size ≠ w0.heap.size + 1; omega) _, ?_, H.k7.far (by show w0.heap.size + 2 ≠ w0.heap.size + 1; omega) _, H.le⟩, OwL.farU ho (by show w0.heap.size + 1 < w0.heap.size + 3; omega) v⟩ (fun hg hk => hk.far hg _)
  rw [← hm]
  exact H.k6.set_ off v
/-- A number goes into the mail's field. -/
theorem ofS {b j off : Nat} {T : TypeId} {v : Value} {y1 y2 : Nat} {s1 s2 : String} {f1 f2 : Array Go.Edge} (r' : MO) (H : OfS w0 A n c r st w) (S : Sx a 205 ((b + 4, gv true v) :: l))
    (h : ∀ (a' : Act) (w' : World), Sx a' 205 l → OfS w0 A n c r' st w' → wpList Try.prog ops Q rest a' w')
    (ho : OwL w (w0.heap.size + 3) r → OwL w (w0.heap.size + 3) r' := by exact id) (h1 : v.oneCell' = true := by rfl) (hi : (Try.prog.info? T).map (·.size) = some 1 := by kernel_rfl)
    (hr : ∀ ev : Operand → Value, ev (.tmp 6) = pt w0 1 → (execOp ev ⟨some (b + 5), .fieldAddr 31 (.tmp 6) j, y1, s1, f1, none⟩).run Try.prog w = .ok (.value (.pointer (some ⟨w0.heap.size + 1, off, none⟩))) w := by (intro ev e; go_simp; first | done | rfl))
    (hm : (mA r).setIfInBounds off v = mA r' := by rfl) (hoff : off < 24 := by decide)
    (h6 : l.lookup 6 = some (gv true (pt w0 1)) := by rfl) (hl : (l.map (·.1)).all (· < b) = true := by rfl) (hn : b + 5 < 205 := by decide) :
    wpList Try.prog ops Q (⟨some (b + 5), .fieldAddr 31 (.tmp 6) j, y1, s1, f1, none⟩ :: ⟨none, .store T (.tmp (b + 5)) (.tmp (b + 4)), y2, s2, f2, none⟩ :: rest) a w := by
  have h6b := look_lt hl h6
  refine sx1 6 S (.pointer (some ⟨w0.heap.size + 1, off, none⟩)) (wantN rfl _) ((look_ne (by omega)).trans h6) (fun _ => rfl) (fun ev ec e => hr ev e) ?_ rfl (by omega); intro a S
  refine ofC r' H.toOfT S (fun a w S H _ => ?_) (ho H.ow) hm h1 hi look_eq ((look_ne (by omega)).trans look_eq) hoff
  exact h _ _ ⟨S.sz, S.df, fun t v ht => S.fx _ _ ((look_ne (by have := look_lt hl ht; omega)).trans ((look_ne (by have := look_lt hl ht; omega)).trans ht))⟩ H
/-- A dyad goes into the mail's mass. -/
theorem ofT {b j j2 off k : Nat} {d : Dy} {X : Option Addr} {cc : Nat} {y1 y2 y3 : Nat} {s1 s2 s3 : String} {f1 f2 f3 : Array Go.Edge} (r' : MO) (H : OfS w0 A n c r st w) (S : Sx a 205 ((b + 4, gv true (.agg #[.bool d.neg, .slice X d.ls.length cc, .int .i64 d.ex])) :: l))
    (h : ∀ (a' : Act) (w' : World), Sx a' 205 l → OfS w0 A n c r' st w' → wpList Try.prog ops Q rest a' w')
    (ho : OwL w (w0.heap.size + 3) r') (hoff : off + 3 ≤ 24 := by decide) 
    (hr : ∀ ev : Operand → Value, ev (.tmp 6) = pt w0 1 → (execOp ev ⟨some (b + 5), .fieldAddr 31 (.tmp 6) j, y1, s1, f1, none⟩).run Try.prog w = .ok (.value (.pointer (some ⟨w0.heap.size + 1, k, none⟩))) w := by (intro ev e; go_simp; first | done | rfl))
    (hr2 : ∀ ev : Operand → Value, ev (.tmp (b + 5)) = .pointer (some ⟨w0.heap.size + 1, k, none⟩) → (execOp ev ⟨some (b + 6), .fieldAddr 26 (.tmp (b + 5)) j2, y2, s2, f2, none⟩).run Try.prog w = .ok (.value (.pointer (some ⟨w0.heap.size + 1, off, none⟩))) w := by (intro ev e; go_simp; first | done | rfl))
    (hm : setL (mA r) off [.bool d.neg, .slice X d.ls.length cc, .int .i64 d.ex] = mA r' := by rfl)
    (h6 : l.lookup 6 = some (gv true (pt w0 1)) := by rfl) (hl : (l.map (·.1)).all (· < b) = true := by rfl) (hn : b + 6 < 205 := by decide) :
    wpList Try.prog ops Q (⟨some (b + 5), .fieldAddr 31 (.tmp 6) j, y1, s1, f1, none⟩ :: ⟨some (b + 6), .fieldAddr 26 (.tmp (b + 5)) j2, y2, s2, f2, none⟩ :: ⟨none, .store 24 (.tmp (b + 6)) (.tmp (b + 4)), y3, s3, f3, none⟩ :: rest) a w := by
  have h6b := look_lt hl h6
  refine sx1 6 S (.pointer (some ⟨w0.heap.size + 1, k, none⟩)) (wantN rfl _) ((look_ne (by omega)).trans h6) (fun _ => rfl) (fun ev ec e => hr ev e) ?_ rfl (by omega); intro a S
  refine sx1 (b + 5) S (.pointer (some ⟨w0.heap.size + 1, off, none⟩)) (wantN rfl _) look_eq (fun _ => rfl) (fun ev ec e => hr2 ev e) ?_ rfl (by omega); intro a S
  have hz := H.k7.lt
  refine wpList_store_mid rfl 24 (.tmp (b + 6)) (.tmp (b + 4)) rfl (w0.heap.size + 1) off #[.bool d.neg, .slice X d.ls.length cc, .int .i64 d.ex] (S.fx _ _ look_eq) (S.fx _ _ ((look_ne (by omega)).trans ((look_ne (by omega)).trans look_eq))) (H.k6.there (by show off + 3 ≤ (mA r).size; exact hoff)) (by kernel_rfl) (by simp [Value.oneCell']) ?_
  replace S := S.none_ (v := undef)
  have q := fun (k : Nat) (hk : k ≤ 6) => (List.all_eq_true.2 fun x hx => by have := List.all_eq_true.1 hl x hx; simp at this ⊢; omega : ((l.map (·.1)).all (· < b + k)) = true)
  have S2 : Sx _ 205 l := ⟨S.sz, S.df, fun t v ht => S.fx _ _ ((look_ne (by have := look_lt hl ht; omega)).trans ((look_ne (by have := look_lt hl ht; omega)).trans ((look_ne (by have := look_lt hl ht; omega)).trans ht)))⟩
  refine h _ _ S2 ⟨⟨below_setCells (by omega) _ _ _ H.hB, Blk.farCells (by omega) _ _ _ _ H.k4, ?_, Blk.farCells (by omega) _ _ _ _ H.k7, H.le⟩, OwL.setCells (by omega) _ _ _ ho⟩
  rw [← hm]
  exact Blk.setL _ _ _ _ H.k6
/-- append of one piece to a row of the mail's. -/
theorem ofP {x y d k dc : Nat} {t e : TypeId} {D : Option Addr} {us xs : List Value} {y1 : Nat} {s1 : String} {f1 : Array Go.Edge} (i : TypeInfo) (z : Value) (size bytes : Nat) (ht : Try.prog.underlying t = some (.slice e)) (hi : Try.prog.info? e = some i) (hz : i.zero = some z)
    (hsize : i.size = size) (hby : i.bytes = bytes) (hzs : z.cells.size = size) (hsz : 0 < size) (H : OfS w0 A n c r st w) (S : Sx a 205 l) (hown : w.ownsRow (w0.heap.size + 3) e size (.slice D k dc) k xs)
    (hul : us.length = size) (hu : ∀ u ∈ us, u.oneCell' = true) (hk : k ≤ 100000) (hb1 : bytes ≤ 100)
    (h : ∀ (a' : Act) (w' : World) (D' : Option Addr) (dc' : Nat), Sx a' 205 ((d, gv true (.slice D' (k + 1) dc')) :: l) → OfT w0 A n c (mA r) st w' → w'.ownsRow (w0.heap.size + 3) e size (.slice D' (k + 1) dc') (k + 1) (xs ++ us) → wpList Try.prog ops Q rest a' w')
    (hx : l.lookup x = some (gv true (.slice D k dc)) := by rfl) (hy : l.lookup y = some (gv true (.slice (some ⟨w.heap.size, 0, none⟩) 1 1)) := by rfl) (hd : d < 205 := by decide) :
    wpList Try.prog ops Q (⟨some d, .call { callee := .builtin .append, args := #[.tmp x, .tmp y], argTypes := #[t, t] }, y1, s1, f1, none⟩ :: rest) a (w.alloc (.cells us.toArray e)) := by
  have hz2 := H.k7.lt
  refine wpList_push2 (w := w) (w0 := w) rfl (.tmp x) (.tmp y) t rfl (w0.heap.size + 3) e i z size bytes ht hi hz hsize hby hzs hsz (Below.refl _ _) (by omega) (.slice D k dc) k xs (S.fx x _ hx) hown us hul hu (S.fx y _ hy) (by unfold maxLen; omega) (by have : (k + 1) * bytes ≤ 100001 * 100 := Nat.mul_le_mul (by omega) hb1; omega) ?_
  intro v' w' h1 h2 h3
  obtain ⟨D', dc', rfl, _, _⟩ := own_slice h1
  have hob : ∀ b, b < w0.heap.size + 3 → (Value.slice D k dc).ownBlock ≠ some b := fun b hb e => by have := own_base hown e; omega
  have hB := H.hB.trans (h2.mono (by omega))
  exact h _ _ D' dc' (S.put _ hd) ⟨hB, (h3 _ (by omega) (hob _ (by omega))).2 _ _ H.k4, (h3 _ (by omega) (hob _ (by omega))).2 _ _ H.k6, (h3 _ (by omega) (hob _ (by omega))).2 _ _ H.k7, H.le⟩ h1
/-- A cell of another block is stored; the mail has descriptors only. -/
theorem OfS.cell5 {K fr tt ep nu : Int} {wa : Bool} {acc : List Tm} {D : Option Addr} {dc g i : Nat} (H : OfS w0 A n c ⟨⟨K, fr, tt, ep, nu, 0, zM, wa, acc, false, 0, 0, []⟩, none, 0, none, 0, none, 0, none, 0, D, dc, none, 0⟩ st w) (hg : w0.heap.size + 2 < g) (hne : (Value.slice D acc.length dc).ownBlock ≠ some g) (u : Value) :
    OfS w0 A n c ⟨⟨K, fr, tt, ep, nu, 0, zM, wa, acc, false, 0, 0, []⟩, none, 0, none, 0, none, 0, none, 0, D, dc, none, 0⟩ st (w.setCell ⟨g, i, none⟩ u) :=
  ⟨⟨H.hB.setCell (by show w0.heap.size ≤ g; omega) _, H.k4.far (by show w0.heap.size ≠ g; omega) _, H.k6.far (by show w0.heap.size + 1 ≠ g; omega) _, H.k7.far (by show w0.heap.size + 2 ≠ g; omega) _, H.le⟩, ⟨OwD.one _ _, OwD.one _ _, OwD.one _ _, OwD.one _ _⟩, own_farT H.ow.2.1 hne u, World.ownsRow_nil _ _ _ _⟩
theorem OfS.drew (H : OfS w0 A n c r st w) : OfS w0 A n c r st w.drew := ⟨⟨H.hB.drew, H.k4.drew, H.k6.drew, H.k7.drew, H.le⟩, H.ow⟩
end
end Go.Proofs.Ytjmhefkmpfkpbaa
