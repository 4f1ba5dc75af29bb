/- Small lemmas on worlds that all texts of this seat use, and the last step of a law's row: a law that returns true and leaves what was there as it was meets its statement's postcondition. | More small lemmas on worlds: a block that is known whole. | Slices that read as lists, nil let in; an argument that is a slice of integers, opened. | append onto a row of the call's own, of whatever source: nil, empty or not. | One more piece behind a row of the call's own: append(out, x), whatever stood there before. | As Kit5's law, with what else stays: every block but the row's own. | Rows of whole numbers from 0 on, read and owned; what stays behind calls and stores. | Numbers as lists of digits to a base, the lowest first: their values, the one list without a 0 at its end, sums and differences digit by digit. Plain: no program. | The range of an integer argument. | Rows of records: each record a list of fields, one cell each: a plain value, or a slice of whole numbers. What is read, what may be written over. | A region that draws its order, in a round of a range over a function: reads ahead of one last part, walked once. | A region that draws its order, whose operations only read, and whose callees may lay blocks of their own: walked once, in the order of the text. The class of worlds: all that have kept what lay below B. | The quiet region of Kit8, the walk behind a structure: guards are decided one by one, and nothing unfolds what is still to come. | A region that draws its order, inside a fence: what reads only may be taken first wherever a condition on the world holds, which each other step shows anew. (For an iterator that reads between its calls of yield.) | Great structs by value: loaded, stored and answered as rows, whatever the number of cells. | Door: a step of a drawn region's walk, in short | Short names for steps that stand often -/
import Derived.WalkKit
import Derived.ProofKit
import Derived.OpenShut
import Derived.Deep.Draws
import Derived.Lib.SmallJoins
import Derived.Laws.OwnMore
import Derived.Laws.Rows
import Derived.Deep.AppendLies
import Derived.Maps.AppendAt
import Derived.RegionTactic
import Derived.OwnWalk
import Derived.Deep.QuietTactic
import Derived.BigQuiet
import Derived.WalkMore
import Derived.IntWalk
import Derived.Lib.Hide
import Derived.Deep.RegionHeld3
import Derived.Deep.DeepCutAuto
import Derived.OneCell
import Derived.StillTail
import Derived.StillTactics
import Derived.OrdersIn
import Derived.RangeFuncCalls
import Derived.TacticsIn
import Derived.OrdersHeld
import Derived.Deep.MidRow
import Derived.Deep.Cut
import Derived.Laws.CopyOwn
namespace Go.Proofs.Ytjmhefkmpfkpbaa
open Go.ChangeShapes Go.WideShapes Go.ChangeAt Go.RowKit

theorem ret_int {k : IntKind} {a b : Int} (h : a = b) : Ending.returned (.int k a) = .returned (.int k b) := by rw [h]
theorem below_drewN {B : Nat} {a w : World} (h : Below B a w) (n : Nat) : Below B a (w.drewN n) := ⟨h.os, h.tape, h.output, h.size, h.block⟩

section
variable {H : Type} {enc : TypeId × Value → H} {P : Program}
/-- Arguments of readable types read again in a world that holds the same at their places. -/
theorem trodAll_stays (hl : laidOutB P = true) {W W' : World} {sp' : Nat → Bool} : ∀ {ts : List TypeId} {vs : List Value} {ds : List (DataW H)} {ps : List MemPlace},
    (∀ t ∈ ts, P.readableRec t = true ∧ t < P.types.size) → DataW.TrodAll enc P W 0 (fun _ => true) true ts vs ds ps → (∀ p ∈ ps, W.sameAt W' p) → (∀ p ∈ ps, sp' p.block = true) → DataW.TrodAll enc P W' 0 sp' true ts vs ds ps
  | [], [], [], _, _, h, _, _ => h
  | t :: _, _ :: _, _ :: _, _, hT, h, hs, hp => by
    obtain ⟨p, q, h1, h2, e⟩ := h
    have ht := hT t (List.mem_cons.2 (Or.inl rfl))
    exact ⟨p, q, WideElems.Trod_stays hl ht.1 ht.2 h1 (fun x hx => hs x (by rw [e]; exact List.mem_append_left _ hx)) (fun x hx => hp x (by rw [e]; exact List.mem_append_left _ hx)),
      trodAll_stays hl (fun u hu => hT u (List.mem_cons.2 (Or.inr hu))) h2 (fun x hx => hs x (by rw [e]; exact List.mem_append_right _ hx)) (fun x hx => hp x (by rw [e]; exact List.mem_append_right _ hx)), e⟩
/-- THE LAST STEP OF A LAW's ROW: the call has returned true, and below the heap's old size nothing has turned. -/
theorem law_post {f : Func} {s : ChangeSpec} {apart fresh handsOn again : Bool} {W W' : World} {args : Array Value} {ds gs : List (DataW H)} {before : List MemPlace} {tb : TypeId}
    (hl : laidOutB P = true) (hT : ∀ t ∈ f.params.toList, P.readableRec t = true ∧ t < P.types.size) (hr : f.resultTypes = #[tb]) (htb : P.underlying tb = some .bool) (hvs : s.vars = [])
    (hW : DataW.Whole enc P f.params.toList s.vars apart W args.toList ds gs before)
    (hres : (s.fn H (ds ++ gs)).results = [.lit (.bool true)]) (hargs : (s.fn H (ds ++ gs)).args = ds) (hvars : (s.fn H (ds ++ gs)).vars = [])
    (hb : Below W.heap.size W W') : s.post enc P f apart fresh handsOn again W args (.bool true) W' := by
  have hlt : ∀ p ∈ before, p.block < W.heap.size := fun p hp => hW.lt p hp
  have hold : ∀ p ∈ before, (fun b => decide (b < W.heap.size)) p.block = true := fun p hp => by simpa using hlt p hp
  have hW0 := hW
  obtain ⟨p, q, hA, hV, hps, hz, hn⟩ := hW
  have hq : q = [] ∧ gs = [] := by
    rw [hvs] at hV
    cases gs with
    | nil => exact ⟨hV, rfl⟩
    | cons _ _ => exact hV.elim
  obtain ⟨rfl, rfl⟩ := hq
  simp only [List.append_nil] at hps
  subst hps
  have again1 : ∀ sp : Nat → Bool, (∀ p ∈ before, sp p.block = true) → DataW.TrodAll enc P W' 0 sp true f.params.toList args.toList (s.fn H (ds ++ [])).args before := fun sp hsp => by
    rw [hargs]
    exact trodAll_stays hl hT hA (fun x hx => hb.same (hlt x hx)) hsp
  have hvars1 : ∀ sp : Nat → Bool, DataW.TrodVars enc P W' sp s.vars (s.fn H (ds ++ [])).vars [] := fun sp => by rw [hvars, hvs]; rfl
  have hres1 : ∀ (b : Nat) (sp : Nat → Bool) (hd : Bool), DataW.TrodAll enc P W' b sp hd f.resultTypes.toList ((Value.bool true).resultList f.resultTypes.size) (s.fn H (ds ++ [])).results [] := fun b sp hd => by
    rw [hres, hr]
    exact trodAll_mk1 (shut_bool htb true)
  refine ⟨ds, [], before, [], before, [], hW0, hres1 _ _ _, again1 _ hold, hvars1 _, World.keptBut_mono (fun p hp => ⟨hp, ?_⟩) (hb.frame (· ∈ before)), fun _ => ?_⟩
  · simpa using hp
  · refine ⟨ok_one hr rfl (okWide_bool_mk htb true), _, _, ([] ++ before) ++ [], ⟨[] ++ before, [], trodAll_append (again1 _ (fun _ _ => rfl)) (hres1 _ _ _), hvars1 _, rfl, ?_, ?_⟩, ?_⟩
    · intro b off hp
      have hin : MemPlace.cell b off ∈ before := by simpa using hp
      rw [hb.frozen (hlt _ hin)]
      exact hz b off hin
    · intro ha
      simpa using hn ha
    · intro p hp _
      simpa using hp
end
section
open Go.Joins Go.Deep
variable {H : Type} {enc : TypeId × Value → H} {P : Program} {w : World} {base : Nat} {spare : Nat → Bool} {held : Bool}
end
end Go.Proofs.Ytjmhefkmpfkpbaa
namespace Go.Proofs.Ytjmhefkmpfkpbaa
open Go.ChangeShapes Go.WideShapes Go.ChangeAt Go.RowKit
/-- Block g is just the cells cs of element type t, none frozen. -/
def Blk (w : World) (g : Nat) (t : TypeId) (cs : Array Value) : Prop := w.heap[g]? = some (.cells cs t (0, 0))

section
variable {w w' : World} {g : Nat} {t : TypeId} {cs : Array Value}
theorem Blk.lt (h : Blk w g t cs) : g < w.heap.size := by
  rcases Nat.lt_or_ge g w.heap.size with hlt | hge
  · exact hlt
  · unfold Blk at h; rw [Array.getElem?_eq_none hge] at h; cases h
theorem Blk.cell (h : Blk w g t cs) (i : Nat) : w.cell? ⟨g, i, none⟩ = cs[i]? := cell_of_row w g i cs t (0, 0) h
theorem Blk.frozen (h : Blk w g t cs) (i : Nat) : w.frozen? ⟨g, i, none⟩ = false := by
  unfold Blk at h
  simp [World.frozen?, h]
theorem Blk.new (w : World) (t : TypeId) (cs : Array Value) : Blk (w.alloc (.cells cs t)) w.heap.size t cs := heap_alloc_new w _
theorem Blk.drew (h : Blk w g t cs) : Blk w.drew g t cs := h
theorem Blk.drewN (h : Blk w g t cs) (n : Nat) : Blk (w.drewN n) g t cs := h
theorem Blk.alloc (h : Blk w g t cs) (o : Obj) : Blk (w.alloc o) g t cs := (Below.heap_alloc w o g h.lt).trans h
theorem Blk.set_ (h : Blk w g t cs) (i : Nat) (u : Value) : Blk (w.setCell ⟨g, i, none⟩ u) g t (cs.setIfInBounds i u) := by
  unfold Blk at h ⊢
  simp [World.setCell, Array.getElem?_modify, h]
theorem Blk.far (h : Blk w g t cs) {p : Addr} (hp : g ≠ p.block) (u : Value) : Blk (w.setCell p u) g t cs := (Below.heap_setCell w p u g hp).trans h
theorem Blk.below {B : Nat} (h : Blk w g t cs) (hb : Below B w w') (hg : g < B) : Blk w' g t cs := (hb.block g hg).trans h
theorem Blk.grown {row : Option Nat} (h : Blk w g t cs) (hb : w.grownBy w' row) (hg : some g ≠ row) : Blk w' g t cs := (hb.block g h.lt hg).trans h
end
end Go.Proofs.Ytjmhefkmpfkpbaa
namespace Go.Proofs.Ytjmhefkmpfkpbaa
open Go.ChangeShapes Go.WideShapes Go.ChangeAt Go.RowKit
theorem block_of_add (a : Addr) (n : Nat) : (a.add n).block = a.block := by unfold Addr.add; split <;> rfl
theorem add_of_add (a : Addr) (i j : Nat) : (a.add i).add j = a.add (i + j) := by
  unfold Addr.add
  by_cases hi : i = 0 <;> by_cases hj : j = 0 <;> simp [hi, hj, Nat.add_assoc]

def Reads (w : World) (B size : Nat) (A : Option Addr) (n : Nat) (xs : List Value) : Prop :=
  xs.length = n * size ∧ (0 < n → ∃ ad, A = some ad ∧ ad.block < B ∧ ∀ j u, xs[j]? = some u → w.cell? (ad.add j) = some u)

section
variable {w w' : World} {B B' size n : Nat} {A : Option Addr} {xs : List Value}
theorem Reads.none_ : Reads w B size A 0 [] := ⟨by simp, fun h => absurd h (by omega)⟩
theorem Reads.at_ {k : Nat} (h : Reads w B 1 A n xs) (hk : k < n) : ∃ ad u, A = some ad ∧ ad.block < B ∧ xs[k]? = some u ∧ w.cell? (ad.add k) = some u := by
  obtain ⟨ad, e, hb, hc⟩ := h.2 (by omega)
  have hl : k < xs.length := by have := h.1; omega
  exact ⟨ad, xs[k], e, hb, List.getElem?_eq_getElem hl, hc k _ (List.getElem?_eq_getElem hl)⟩
theorem Reads.keep (h : Reads w B size A n xs) (hk : ∀ p : Addr, p.block < B → w'.cell? p = w.cell? p) : Reads w' B size A n xs :=
  ⟨h.1, fun hn => by
    obtain ⟨ad, e, hb, hc⟩ := h.2 hn
    exact ⟨ad, e, hb, fun j u hu => (hk _ (by rw [block_of_add]; exact hb)).trans (hc j u hu)⟩⟩
theorem Reads.more (h : Reads w B size A n xs) (hB : B ≤ B') : Reads w B' size A n xs :=
  ⟨h.1, fun hn => by
    obtain ⟨ad, e, hb, hc⟩ := h.2 hn
    exact ⟨ad, e, by omega, hc⟩⟩
theorem Reads.below (h : Reads w B size A n xs) (hb : Below B w w') : Reads w' B size A n xs := h.keep fun _ hp => hb.cell hp
theorem Reads.drew (h : Reads w B size A n xs) : Reads w.drew B size A n xs := h
theorem Reads.drewN (h : Reads w B size A n xs) (k : Nat) : Reads (w.drewN k) B size A n xs := h
theorem Reads.alloc (h : Reads w B size A n xs) (hB : B ≤ w.heap.size) (o : Obj) : Reads (w.alloc o) B size A n xs := h.keep fun p hp => World.cell?_alloc_lt w o p (by omega)
theorem Reads.setCell (h : Reads w B size A n xs) {p : Addr} (hB : B ≤ p.block) (u : Value) : Reads (w.setCell p u) B size A n xs :=
  h.keep fun q hq => World.cell?_setCell_other w p q u (fun e => by subst e; omega)
theorem Reads.grown (h : Reads w B size A n xs) {row : Option Nat} (hg : w.grownBy w' row) (hB : B ≤ w.heap.size) (hr : ∀ g, row = some g → B ≤ g) : Reads w' B size A n xs :=
  h.keep fun p hp => World.cell?_of_block (hg.block p.block (by omega) (fun e => by have := hr _ e.symm; omega))
theorem Reads.of_own {base : Nat} {e : TypeId} {c : Nat} (h : w.ownsRow base e size (.slice A n c) n xs) : Reads w w.heap.size size A n xs := by
  refine ⟨h.1, fun hn => ?_⟩
  obtain ⟨g, cap, hv, _, hlt⟩ := h.form hn
  have hA : A = some ⟨g, 0, none⟩ := by injection hv
  subst hA
  exact ⟨_, rfl, hlt, h.cells (g := g) rfl⟩
end
section
variable {H : Type} {enc : TypeId × Value → H} {P : Program} {w : World}
/-- An argument that is a slice of integers. -/
theorem open_reads {r : Reach} {b0 : Nat} {t e : TypeId} {k : IntKind} {v : Value} {d : DataW H} {p : List MemPlace} (ht : P.underlying t = some (.slice e)) (he : P.underlying e = some (.int k)) (hc : P.cellsOf e = 1)
    (hv : Value.okWide P w r b0 t v) (h : DataW.Trod enc P w 0 (fun _ => true) true t v d p) :
    ∃ (A : Option Addr) (n c : Nat) (zs : List Int), v = .slice A n c ∧ n ≤ c ∧ c ≤ maxLen ∧ zs.length = n ∧ Reads w w.heap.size 1 A n (zs.map (Value.int k)) ∧ ∀ z ∈ zs, (Lit.int k z).wf = true := by
  obtain ⟨a0, len, cap, rfl⟩ := okWide_slice ht hv
  obtain ⟨fuel, hf⟩ := h
  rcases open_ints ht he hc hf with ⟨hcs, _⟩ | ⟨a, len', cap', zs, hcs, _, hl, hm, hz, _, hcell, hwf⟩
  · simp [Value.cells] at hcs
    obtain ⟨rfl, rfl, rfl⟩ := hcs
    exact ⟨none, 0, 0, [], rfl, Nat.le_refl _, Nat.zero_le _, rfl, Reads.none_, by simp⟩
  · simp [Value.cells] at hcs
    obtain ⟨rfl, rfl, rfl⟩ := hcs
    simp only [if_true] at hz
    refine ⟨some a, len, cap, zs.take len, rfl, hl, hm, by simp; omega, ⟨by simp; omega, fun hn => ⟨a, rfl, ?_, ?_⟩⟩, fun z hz' => hwf z (List.mem_of_mem_take hz')⟩
    · have := World.block_lt_of_cell? w _ (hcell 0 (by omega))
      rwa [block_of_add] at this
    · intro j u hu
      rw [List.getElem?_map, List.getElem?_take] at hu
      split at hu
      · rename_i hj
        have hj' : j < zs.length := by omega
        rw [hcell j hj', List.getD_eq_getElem?_getD]
        rw [List.getElem?_eq_getElem hj'] at hu ⊢
        simpa using hu
      · simp at hu
end
end Go.Proofs.Ytjmhefkmpfkpbaa
namespace Go.Proofs.Ytjmhefkmpfkpbaa
open Go.ChangeShapes Go.WideShapes Go.ChangeAt Go.RowKit
section
variable {P : Program} (w : World)
theorem run_append_of_nil (base : Nat) (t ty e : TypeId) (i : TypeInfo) (size : Nat) (ht : P.underlying t = some (.slice e)) (hi : P.info? e = some i)
    (v : Value) (n : Nat) (xs : List Value) (hown : w.ownsRow base e size v n xs) (c : Nat) : (Builtin.append_ #[t, t] ty #[v, .slice none 0 c]).run P w = .ok v w := by
  rcases hown.2 with ⟨rfl, rfl⟩ | ⟨g, cap, cur, rfl, _, _, hnc, _⟩
  · simp [Builtin.append_, run_underlying ht, sizeOf, typeInfo, hi, Builtin.lenOf, Builtin.firstCells]
  · simp [Builtin.append_, run_underlying ht, sizeOf, typeInfo, hi, Builtin.lenOf, Builtin.firstCells, hnc, storeCells]

theorem run_append_any (base : Nat) (t ty e : TypeId) (i : TypeInfo) (z : Value) (size bytes : Nat) (ht : P.underlying t = some (.slice e)) (hi : P.info? e = some i) (hz : i.zero = some z)
    (hsize : i.size = size) (hby : i.bytes = bytes) (hzs : z.cells.size = size) (hsz : 0 < size)
    (v : Value) (n : Nat) (xs : List Value) (hown : w.ownsRow base e size v n xs)
    (B : Nat) (A : Option Addr) (m c : Nat) (news : List Value) (hr : Reads w B size A m news) (h1 : ∀ u ∈ news, u.oneCell' = true)
    (h63 : n + m ≤ maxLen) (hbytes : (n + m) * bytes ≤ 140737488355328) (hbase : base ≤ w.heap.size) :
    ∃ v' w', (Builtin.append_ #[t, t] ty #[v, .slice A m c]).run P w = .ok v' w' ∧ w'.ownsRow base e size v' (n + m) (xs ++ news) ∧ w.grownBy w' v.ownBlock ∧
      (v'.ownBlock = v.ownBlock ∨ v'.ownBlock = some w.heap.size) := by
  rcases A with _ | ad
  · have hm : m = 0 := by
      rcases Nat.eq_zero_or_pos m with h0 | h0
      · exact h0
      · obtain ⟨ad, h, _⟩ := hr.2 h0
        cases h
    subst hm
    have hn : news = [] := List.eq_nil_of_length_eq_zero (by simpa using hr.1)
    subst hn
    exact ⟨v, w, run_append_of_nil w base t ty e i size ht hi v n xs hown c, by simpa using hown, World.grownBy.refl w _, .inl rfl⟩
  · have hcells : ∀ j u, news[j]? = some u → w.cell? (ad.add j) = some u := by
      intro j u hu
      rcases Nat.eq_zero_or_pos m with h0 | h0
      · subst h0
        have hn : news = [] := List.eq_nil_of_length_eq_zero (by simpa using hr.1)
        subst hn
        simp at hu
      · obtain ⟨ad', h, _, hc⟩ := hr.2 h0
        injection h with h
        subst h
        exact hc j u hu
    obtain ⟨v', w', hrun, h2, h3, _, h5⟩ := run_append_own_at (P := P) w base t ty e i z size bytes ht hi hz hsize hby hzs hsz v n xs hown ad m c news hr.1 hcells h1 h63 hbytes hbase
    exact ⟨v', w', hrun, h2, h3, h5⟩

theorem wp_append_any {o : Oper} {a : Act} {K : Act → World → Prop} {Q : Exit → Act → World → Prop} (s x : Operand) (t : TypeId)
    (ho : o.op = .call { callee := .builtin .append, args := #[s, x], argTypes := #[t, t] })
    (base : Nat) (e : TypeId) (i : TypeInfo) (z : Value) (size bytes : Nat) (ht : P.underlying t = some (.slice e)) (hi : P.info? e = some i) (hz : i.zero = some z)
    (hsize : i.size = size) (hby : i.bytes = bytes) (hzs : z.cells.size = size) (hsz : 0 < size)
    (v : Value) (n : Nat) (xs : List Value) (hs : a.eval s = v) (hown : w.ownsRow base e size v n xs)
    (B : Nat) (A : Option Addr) (m c : Nat) (news : List Value) (hx : a.eval x = .slice A m c) (hr : Reads w B size A m news) (h1 : ∀ u ∈ news, u.oneCell' = true)
    (h63 : n + m ≤ maxLen) (hbytes : (n + m) * bytes ≤ 140737488355328) (hbase : base ≤ w.heap.size)
    (h : ∀ v' w', w'.ownsRow base e size v' (n + m) (xs ++ news) → w.grownBy w' v.ownBlock → (v'.ownBlock = v.ownBlock ∨ v'.ownBlock = some w.heap.size) → K (a.put o.dst v') w') : o.wp P a w K Q := by
  obtain ⟨v', w', hrun, h2, h3, h4⟩ := run_append_any (P := P) w base t o.type e i z size bytes ht hi hz hsize hby hzs hsz v n xs hown B A m c news hr h1 h63 hbytes hbase
  unfold Oper.wp execOp
  simp only [ho, resolve, invoke, builtin, Sem.run_bind, Sem.run_pure, Result.andThen_ok, List.map_toArray, List.map_cons, List.map_nil, hs, hx, hrun]
  exact h v' w' h2 h3 h4

theorem wpList_append_any {ops : Array Oper} {rest : List Oper} {o : Oper} {a : Act} {Q : Exit → Act → World → Prop} (hgd : o.guard = none) (s x : Operand) (t : TypeId)
    (ho : o.op = .call { callee := .builtin .append, args := #[s, x], argTypes := #[t, t] })
    (base : Nat) (e : TypeId) (i : TypeInfo) (z : Value) (size bytes : Nat) (ht : P.underlying t = some (.slice e)) (hi : P.info? e = some i) (hz : i.zero = some z)
    (hsize : i.size = size) (hby : i.bytes = bytes) (hzs : z.cells.size = size) (hsz : 0 < size)
    (v : Value) (n : Nat) (xs : List Value) (hs : a.eval s = v) (hown : w.ownsRow base e size v n xs)
    (B : Nat) (A : Option Addr) (m c : Nat) (news : List Value) (hx : a.eval x = .slice A m c) (hr : Reads w B size A m news) (h1 : ∀ u ∈ news, u.oneCell' = true)
    (h63 : n + m ≤ maxLen) (hbytes : (n + m) * bytes ≤ 140737488355328) (hbase : base ≤ w.heap.size)
    (h : ∀ v' w', w'.ownsRow base e size v' (n + m) (xs ++ news) → w.grownBy w' v.ownBlock → (v'.ownBlock = v.ownBlock ∨ v'.ownBlock = some w.heap.size) → wpList P ops Q rest (a.put o.dst v') w') : wpList P ops Q (o :: rest) a w :=
  wpList_plain hgd fun _ hK => wp_append_any w s x t ho base e i z size bytes ht hi hz hsize hby hzs hsz v n xs hs hown B A m c news hx hr h1 h63 hbytes hbase fun v' w' h2 h3 h4 => hK _ _ (h v' w' h2 h3 h4)
end
/-- A block that has just been made reads as its cells. -/
theorem reads_new (w : World) (cs : List Value) (t : TypeId) (n : Nat) (hn : cs.length = n) : Reads (w.alloc (.cells cs.toArray t)) (w.heap.size + 1) 1 (some ⟨w.heap.size, 0, none⟩) n cs := by
  refine ⟨by simp [hn], fun _ => ⟨_, rfl, by simp, fun j u hu => ?_⟩⟩
  have e : (⟨w.heap.size, 0, none⟩ : Addr).add j = ⟨w.heap.size, j, none⟩ := by unfold Addr.add; split <;> simp_all
  rw [e, World.cell?_alloc_new]
  simpa using hu
/-- A block that has just been made is owned whole. -/
theorem owns_new (w : World) (base : Nat) (hb : base ≤ w.heap.size) (cs : List Value) (t : TypeId) (n : Nat) (hn : cs.length = n) (hm : n ≤ maxLen) : (w.alloc (.cells cs.toArray t)).ownsRow base t 1 (.slice (some ⟨w.heap.size, 0, none⟩) n n) n cs :=
  ⟨by simp [hn], .inr ⟨w.heap.size, n, cs.toArray, rfl, hb, heap_alloc_new w _, Nat.le_refl _, hm, by simp [hn], by simp [← hn]⟩⟩
end Go.Proofs.Ytjmhefkmpfkpbaa
namespace Go.Proofs.Ytjmhefkmpfkpbaa
open Go.ChangeShapes Go.WideShapes Go.ChangeAt Go.RowKit
theorem reads_one (w : World) (us : List Value) (t : TypeId) (size : Nat) (hn : us.length = size) : Reads (w.alloc (.cells us.toArray t)) (w.heap.size + 1) size (some ⟨w.heap.size, 0, none⟩) 1 us := by
  refine ⟨by simp [hn], fun _ => ⟨_, rfl, by simp, fun j u hu => ?_⟩⟩
  have e : (⟨w.heap.size, 0, none⟩ : Addr).add j = ⟨w.heap.size, j, none⟩ := by unfold Addr.add; split <;> simp_all
  rw [e, World.cell?_alloc_new]
  simpa using hu
theorem own_base {w : World} {base size n : Nat} {e : TypeId} {v : Value} {xs : List Value} (h : w.ownsRow base e size v n xs) {g : Nat} (hg : v.ownBlock = some g) : base ≤ g := by
  rcases h.2 with ⟨rfl, rfl⟩ | ⟨b, c, cur, rfl, hb, _⟩
  · simp [Value.ownBlock] at hg
  · simp [Value.ownBlock] at hg
    omega
theorem own_slice {w : World} {base size n : Nat} {e : TypeId} {v : Value} {xs : List Value} (h : w.ownsRow base e size v n xs) : ∃ A c, v = .slice A n c ∧ n ≤ c ∧ Reads w w.heap.size size A n xs := by
  rcases h.2 with ⟨rfl, rfl⟩ | ⟨b, c, cur, rfl, hb, hh, hnc, _⟩
  · exact ⟨none, 0, rfl, Nat.le_refl _, Reads.of_own h⟩
  · exact ⟨_, c, rfl, hnc, Reads.of_own h⟩
theorem wpList_push {P : Program} {w w0 : World} {ops : Array Oper} {rest : List Oper} {o : Oper} {a : Act} {Q : Exit → Act → World → Prop} (hgd : o.guard = none) (s x : Operand) (t : TypeId)
    (ho : o.op = .call { callee := .builtin .append, args := #[s, x], argTypes := #[t, t] })
    (base : Nat) (e : TypeId) (i : TypeInfo) (z : Value) (size bytes : Nat) (ht : P.underlying t = some (.slice e)) (hi : P.info? e = some i) (hz : i.zero = some z)
    (hsize : i.size = size) (hby : i.bytes = bytes) (hzs : z.cells.size = size) (hsz : 0 < size)
    (hB : Below base w w0) (hwb : base ≤ w.heap.size)
    (v : Value) (n : Nat) (xs : List Value) (hs : a.eval s = v) (hown : w0.ownsRow base e size v n xs)
    (us : List Value) (hul : us.length = size) (hu : ∀ u ∈ us, u.oneCell' = true) (hx : a.eval x = .slice (some ⟨w0.heap.size, 0, none⟩) 1 1)
    (h63 : n + 1 ≤ maxLen) (hbytes : (n + 1) * bytes ≤ 140737488355328)
    (h : ∀ v' w', w'.ownsRow base e size v' (n + 1) (xs ++ us) → Below base w w' → wpList P ops Q rest (a.put o.dst v') w') : wpList P ops Q (o :: rest) a (w0.alloc (.cells us.toArray e)) := by
  have hw0 : base ≤ w0.heap.size := Nat.le_trans hwb hB.size
  refine wpList_append_any _ hgd s x t ho base e i z size bytes ht hi hz hsize hby hzs hsz v n xs hs (hown.alloc _) (w0.heap.size + 1) _ 1 1 us hx (reads_one w0 us e size hul) hu h63 hbytes (by rw [World.size_alloc]; omega) ?_
  intro v' w' h1 h2 _
  exact h v' w' h1 ((hB.alloc hw0 _).grown h2 (by rw [World.size_alloc]; omega) (fun k hk => own_base hown hk))
end Go.Proofs.Ytjmhefkmpfkpbaa
namespace Go.Proofs.Ytjmhefkmpfkpbaa
open Go.ChangeShapes Go.WideShapes Go.ChangeAt Go.RowKit
theorem wpList_push2 {P : Program} {w w0 : World} {ops : Array Oper} {rest : List Oper} {o : Oper} {a : Act} {Q : Exit → Act → World → Prop} (hgd : o.guard = none) (s x : Operand) (t : TypeId)
    (ho : o.op = .call { callee := .builtin .append, args := #[s, x], argTypes := #[t, t] })
    (base : Nat) (e : TypeId) (i : TypeInfo) (z : Value) (size bytes : Nat) (ht : P.underlying t = some (.slice e)) (hi : P.info? e = some i) (hz : i.zero = some z)
    (hsize : i.size = size) (hby : i.bytes = bytes) (hzs : z.cells.size = size) (hsz : 0 < size)
    (hB : Below base w w0) (hwb : base ≤ w.heap.size)
    (v : Value) (n : Nat) (xs : List Value) (hs : a.eval s = v) (hown : w0.ownsRow base e size v n xs)
    (us : List Value) (hul : us.length = size) (hu : ∀ u ∈ us, u.oneCell' = true) (hx : a.eval x = .slice (some ⟨w0.heap.size, 0, none⟩) 1 1)
    (h63 : n + 1 ≤ maxLen) (hbytes : (n + 1) * bytes ≤ 140737488355328)
    (h : ∀ v' w', w'.ownsRow base e size v' (n + 1) (xs ++ us) → Below base w w' → (∀ b, b < w0.heap.size → v.ownBlock ≠ some b → v'.ownBlock ≠ some b ∧ ∀ t cs, Blk w0 b t cs → Blk w' b t cs) → wpList P ops Q rest (a.put o.dst v') w') : wpList P ops Q (o :: rest) a (w0.alloc (.cells us.toArray e)) := by
  have hw0 : base ≤ w0.heap.size := Nat.le_trans hwb hB.size
  refine wpList_append_any _ hgd s x t ho base e i z size bytes ht hi hz hsize hby hzs hsz v n xs hs (hown.alloc _) (w0.heap.size + 1) _ 1 1 us hx (reads_one w0 us e size hul) hu h63 hbytes (by rw [World.size_alloc]; omega) ?_
  intro v' w' h1 h2 h3
  refine h v' w' h1 ((hB.alloc hw0 _).grown h2 (by rw [World.size_alloc]; omega) (fun k hk => own_base hown hk)) (fun b hb hne => ⟨?_, fun t cs hc => (hc.alloc _).grown h2 (Ne.symm hne)⟩)
  rcases h3 with h3 | h3
  · rw [h3]; exact hne
  · rw [h3, World.size_alloc]
    intro e
    injection e with e
    omega
theorem own_lt {w : World} {base size n : Nat} {e : TypeId} {v : Value} {xs : List Value} (h : w.ownsRow base e size v n xs) {g : Nat} (hg : v.ownBlock = some g) : g < w.heap.size := by
  rcases h.2 with ⟨rfl, rfl⟩ | ⟨b, c, cur, rfl, hb, hh, _⟩
  · simp [Value.ownBlock] at hg
  · simp [Value.ownBlock] at hg
    have h1 : Blk w b e cur := hh
    have := h1.lt
    omega
end Go.Proofs.Ytjmhefkmpfkpbaa
namespace Go.Proofs.Ytjmhefkmpfkpbaa
open Go.ChangeShapes Go.WideShapes Go.ChangeAt Go.RowKit
set_option linter.unusedSimpArgs false
set_option linter.unusedVariables false
theorem own_below {w w' : World} {base size n : Nat} {e : TypeId} {v : Value} {xs : List Value} (h : w.ownsRow base e size v n xs) (hb : Below w.heap.size w w') : w'.ownsRow base e size v n xs :=
  ⟨h.1, h.2.imp id fun ⟨g, c, cur, e1, h1, h2, r⟩ => ⟨g, c, cur, e1, h1, Blk.below (show Blk w g e cur from h2) hb (Blk.lt (show Blk w g e cur from h2)), r⟩⟩
theorem own_set {w : World} {base size n : Nat} {e : TypeId} {v : Value} {xs : List Value} (h : w.ownsRow base e size v n xs) {p : Addr} (hp : p.block < base) (u : Value) : (w.setCell p u).ownsRow base e size v n xs :=
  ⟨h.1, h.2.imp id fun ⟨g, c, cur, e1, h1, h2, r⟩ => ⟨g, c, cur, e1, h1, Blk.far (show Blk w g e cur from h2) (by omega) u, r⟩⟩
abbrev ints (k : IntKind) (l : List Nat) : List Value := l.map (fun x : Nat => Value.int k (x : Int))
theorem ints_one (k : IntKind) (l : List Nat) : ∀ u ∈ ints k l, u.oneCell' = true := by
  intro u hu
  simp only [List.mem_map] at hu
  obtain ⟨x, _, rfl⟩ := hu
  rfl
theorem ints_at (k : IntKind) {l : List Nat} {j : Nat} (h : j < l.length) : (ints k l)[j]? = some (.int k ((l.getD j 0 : Nat) : Int)) := by
  rw [List.getElem?_map, List.getElem?_eq_getElem h, List.getD_eq_getElem?_getD, List.getElem?_eq_getElem h]
  rfl
theorem ints_of {k : IntKind} {zs : List Int} (h : ∀ z ∈ zs, 0 ≤ z) : zs.map (Value.int k) = ints k (zs.map Int.toNat) := by
  rw [ints, List.map_map]
  apply List.map_congr_left
  intro z hz
  simp [Int.toNat_of_nonneg (h z hz)]
theorem at_ints {w : World} {B n k : Nat} {A : Option Addr} {l : List Nat} {K : IntKind} (hn : l.length = n) (hR : Reads w B 1 A n (ints K l)) (hk : k < n) : ∃ ad, A = some ad ∧ ad.block < B ∧ w.cell? (ad.add k) = some (.int K ((l.getD k 0 : Nat) : Int)) := by
  obtain ⟨ad, u, hA, hb, hu, hc⟩ := hR.at_ hk
  refine ⟨ad, hA, hb, ?_⟩
  rw [hc, ← hu, ints_at K (by omega)]
/-- A row of the call's own: it lies at the head of a block that is its own, which may be longer. -/
def OwnR (w : World) (base : Nat) (e : TypeId) (A : Option Addr) (n : Nat) (xs : List Value) : Prop :=
  xs.length = n ∧ (0 < n → ∃ g cur, A = some ⟨g, 0, none⟩ ∧ base ≤ g ∧ Blk w g e cur ∧ cur.toList.take n = xs)
section
variable {w w' : World} {base n c : Nat} {e : TypeId} {A : Option Addr} {xs : List Value}
theorem OwnR.none_ : OwnR w base e A 0 [] := ⟨rfl, fun h => absurd h (by omega)⟩
theorem OwnR.of_row (h : w.ownsRow base e 1 (.slice A n c) n xs) : OwnR w base e A n xs := by
  refine ⟨by simpa using h.1, fun h0 => ?_⟩
  rcases h.2 with ⟨_, h1⟩ | ⟨g, cap, cur, hv, hb, hh, _, _, _, ht⟩
  · omega
  · injection hv with hA
    exact ⟨g, cur, hA, hb, hh, by simpa using ht⟩
theorem OwnR.reads (h : OwnR w base e A n xs) : Reads w w.heap.size 1 A n xs := by
  refine ⟨by simpa using h.1, fun h0 => ?_⟩
  obtain ⟨g, cur, hA, hb, hh, ht⟩ := h.2 h0
  refine ⟨_, hA, hh.lt, fun j u hu => ?_⟩
  have e : (⟨g, 0, none⟩ : Addr).add j = ⟨g, j, none⟩ := by unfold Addr.add; split <;> simp_all
  rw [e, hh.cell]
  rw [← ht, List.getElem?_take] at hu
  split at hu
  · simpa using hu
  · simp at hu
theorem OwnR.below (h : OwnR w base e A n xs) (hb : Below w.heap.size w w') : OwnR w' base e A n xs :=
  ⟨h.1, fun h0 => by obtain ⟨g, cur, hA, hg, hh, ht⟩ := h.2 h0; exact ⟨g, cur, hA, hg, hh.below hb hh.lt, ht⟩⟩
theorem OwnR.base_le (h : OwnR w base e A n xs) {b : Nat} (hb : b ≤ base) : OwnR w b e A n xs :=
  ⟨h.1, fun h0 => by obtain ⟨g, cur, hA, hg, hh, ht⟩ := h.2 h0; exact ⟨g, cur, hA, by omega, hh, ht⟩⟩
/-- A cell of one's own, written. -/
theorem OwnR.at_ (h : OwnR w base e A n xs) {k : Nat} (hk : k < n) : ∃ g, A = some ⟨g, 0, none⟩ ∧ base ≤ g ∧ g < w.heap.size ∧ w.cell? ⟨g, k, none⟩ = xs[k]? ∧ w.frozen? ⟨g, k, none⟩ = false ∧ (∀ u, OwnR (w.setCell ⟨g, k, none⟩ u) base e A n (xs.set k u)) := by
  obtain ⟨g, cur, hA, hb, hh, ht⟩ := h.2 (by omega)
  refine ⟨g, hA, hb, hh.lt, ?_, hh.frozen k, fun u => ⟨by rw [List.length_set]; exact h.1, fun _ => ⟨g, _, hA, hb, hh.set_ k u, ?_⟩⟩⟩
  · rw [hh.cell, ← ht, List.getElem?_take, if_pos hk]; simp
  · rw [← ht, Array.toList_setIfInBounds, List.take_set]
end
end Go.Proofs.Ytjmhefkmpfkpbaa
namespace Go.Proofs.Ytjmhefkmpfkpbaa
set_option linter.unusedVariables false
/-- The value of digits. -/
def val (B : Nat) : List Nat → Nat
  | [] => 0
  | x :: r => x + B * val B r
/-- No 0 stands at the end. -/
def Canon (l : List Nat) : Prop := l.length = 0 ∨ l.getD (l.length - 1) 0 ≠ 0
instance (l : List Nat) : Decidable (Canon l) := by unfold Canon; exact inferInstance
/-- Numbers of the first k digits, read with 0 behind the list. -/
def pre (B : Nat) (l : List Nat) (k : Nat) : Nat := val B ((List.range k).map (fun i => l.getD i 0))
end Go.Proofs.Ytjmhefkmpfkpbaa
namespace Go.Proofs.Ytjmhefkmpfkpbaa
open Go.ChangeShapes Go.WideShapes Go.ChangeAt Go.RowKit
theorem u32_range {x : Int} (h : (Lit.int .u32 x).wf = true) : 0 ≤ x ∧ x < 4294967296 := by
  simp [Lit.wf, IntKind.min, IntKind.max, IntKind.signed, IntKind.bits] at h
  omega
end Go.Proofs.Ytjmhefkmpfkpbaa
namespace Go.Proofs.Ytjmhefkmpfkpbaa
open Go.ChangeShapes Go.WideShapes Go.ChangeAt Go.RowKit
set_option linter.unusedSimpArgs false
set_option linter.unusedVariables false
inductive Fd where
  | val (x : Value) : Fd
  | row (k : IntKind) (xs : List Nat) : Fd
/-- A cell holds a field. -/
def RdF (w : World) (B : Nat) (p : Addr) : Fd → Prop
  | .val x => w.cell? p = some x
  | .row k xs => ∃ X m d, xs.length = m ∧ m ≤ d ∧ Reads w B 1 X m (ints k xs) ∧ w.cell? p = some (.slice X m d)
/-- A row of n records of m fields each, all in blocks below B. -/
def Recs (w : World) (B m : Nat) (A : Option Addr) (n : Nat) (l : List (List Fd)) : Prop :=
  l.length = n ∧ (0 < n → ∃ ad, A = some ad ∧ ad.block < B ∧ ∀ i r, l[i]? = some r → ∀ j f, r[j]? = some f → RdF w B (ad.add (i * m + j)) f)
section
variable {w w' : World} {B B' m n : Nat} {A : Option Addr} {l : List (List Fd)}
theorem RdF.keep {p : Addr} {f : Fd} (h : RdF w B p f) (hp : p.block < B) (hk : ∀ q : Addr, q.block < B → w'.cell? q = w.cell? q) : RdF w' B p f := by
  cases f with
  | val x => exact (hk p hp).trans h
  | row k xs =>
    obtain ⟨X, m, d, h1, h2, h3, h4⟩ := h
    exact ⟨X, m, d, h1, h2, h3.keep hk, (hk p hp).trans h4⟩
theorem RdF.more {p : Addr} {f : Fd} (h : RdF w B p f) (hB : B ≤ B') : RdF w B' p f := by
  cases f with
  | val x => exact h
  | row k xs =>
    obtain ⟨X, m, d, h1, h2, h3, h4⟩ := h
    exact ⟨X, m, d, h1, h2, h3.more hB, h4⟩
theorem Recs.none_ : Recs w B m A 0 [] := ⟨rfl, fun h => absurd h (by omega)⟩
theorem Recs.keep (h : Recs w B m A n l) (hk : ∀ q : Addr, q.block < B → w'.cell? q = w.cell? q) : Recs w' B m A n l :=
  ⟨h.1, fun h0 => by
    obtain ⟨ad, e, hb, hc⟩ := h.2 h0
    exact ⟨ad, e, hb, fun i r hr j f hf => (hc i r hr j f hf).keep (by rw [block_of_add]; exact hb) hk⟩⟩
theorem Recs.more (h : Recs w B m A n l) (hB : B ≤ B') : Recs w B' m A n l :=
  ⟨h.1, fun h0 => by
    obtain ⟨ad, e, hb, hc⟩ := h.2 h0
    exact ⟨ad, e, by omega, fun i r hr j f hf => (hc i r hr j f hf).more hB⟩⟩
theorem Recs.below (h : Recs w B m A n l) (hb : Below B w w') : Recs w' B m A n l := h.keep fun _ hp => hb.cell hp
theorem Recs.drew (h : Recs w B m A n l) : Recs w.drew B m A n l := h.keep fun _ _ => rfl
theorem Recs.alloc (h : Recs w B m A n l) (hB : B ≤ w.heap.size) (o : Obj) : Recs (w.alloc o) B m A n l := h.keep fun p hp => World.cell?_alloc_lt w o p (by omega)
theorem Recs.at_ {i : Nat} (h : Recs w B m A n l) (hi : i < n) : ∃ ad r, A = some ad ∧ ad.block < B ∧ l[i]? = some r ∧ ∀ j f, r[j]? = some f → RdF w B (ad.add (i * m + j)) f := by
  obtain ⟨ad, e, hb, hc⟩ := h.2 (by omega)
  have hl : i < l.length := by have := h.1; omega
  exact ⟨ad, l[i], e, hb, List.getElem?_eq_getElem hl, hc i _ (List.getElem?_eq_getElem hl)⟩
theorem Recs.take (h : Recs w B m A n l) {k : Nat} (hk : k ≤ n) : Recs w B m A k (l.take k) := by
  refine ⟨by rw [List.length_take, h.1]; omega, fun h0 => ?_⟩
  obtain ⟨ad, e, hb, hc⟩ := h.2 (by omega)
  refine ⟨ad, e, hb, fun i r hr => hc i r ?_⟩
  rw [List.getElem?_take] at hr
  split at hr
  · exact hr
  · cases hr
end
theorem OwnR.lt {w : World} {base n : Nat} {e : TypeId} {A : Option Addr} {xs : List Value} (h : OwnR w base e A n xs) : ∀ g, A = some ⟨g, 0, none⟩ → 0 < n → g < w.heap.size := by
  intro g hA h0
  obtain ⟨g', cur, hA', _, hh, _⟩ := h.2 h0
  rw [hA] at hA'
  injection hA' with hA'
  injection hA' with hA' _ _
  rw [hA']
  exact hh.lt
theorem OwnR.far {w : World} {base n : Nat} {e : TypeId} {A : Option Addr} {xs : List Value} (h : OwnR w base e A n xs) {p : Addr} (hp : p.block < base) (u : Value) : OwnR (w.setCell p u) base e A n xs :=
  ⟨h.1, fun h0 => by obtain ⟨g, cur, hA, hg, hh, ht⟩ := h.2 h0; exact ⟨g, cur, hA, hg, hh.far (by omega) u, ht⟩⟩
/-- Where a row may be written over: it lies at the head of a block of S, whose cells are not of type E. -/
def WrR (w : World) (S : Nat → Prop) (E : TypeId) (X : Option Addr) (m : Nat) : Prop :=
  0 < m → ∃ g T cur, X = some ⟨g, 0, none⟩ ∧ S g ∧ Blk w g T cur ∧ m ≤ cur.size ∧ T ≠ E
def WrF (w : World) (S : Nat → Prop) (E : TypeId) (v : Value) : Fd → Prop
  | .val _ => True
  | .row _ xs => ∃ X m d, v = .slice X m d ∧ xs.length = m ∧ WrR w S E X m
/-- Records that may be written over. -/
def Wr (w : World) (S : Nat → Prop) (E : TypeId) (m : Nat) (A : Option Addr) (n : Nat) (l : List (List Fd)) : Prop :=
  l.length = n ∧ (0 < n → ∃ g cur, A = some ⟨g, 0, none⟩ ∧ S g ∧ Blk w g E cur ∧ ∀ i r, l[i]? = some r → ∀ j f, r[j]? = some f → ∃ v, cur[i * m + j]? = some v ∧ WrF w S E v f)
/-- Blocks outside S stay. -/
def Fr (S : Nat → Prop) (w w' : World) : Prop := Below 0 w w' ∧ w'.heap.size = w.heap.size ∧ ∀ g, ¬ S g → w'.heap[g]? = w.heap[g]?
section
variable {w w' w'' : World} {S : Nat → Prop} {E : TypeId} {m n : Nat} {A : Option Addr} {l : List (List Fd)}
theorem Fr.refl (S : Nat → Prop) (w : World) : Fr S w w := ⟨Below.refl _ _, rfl, fun _ _ => rfl⟩
theorem Fr.trans (h : Fr S w w') (h2 : Fr S w' w'') : Fr S w w'' := ⟨h.1.trans h2.1, h2.2.1.trans h.2.1, fun g hg => (h2.2.2 g hg).trans (h.2.2 g hg)⟩
theorem Fr.set_ (w : World) {p : Addr} (hp : S p.block) (u : Value) : Fr S w (w.setCell p u) :=
  ⟨(Below.refl 0 w).setCell (Nat.zero_le _) u, by simp, fun g hg => Below.heap_setCell w p u g (fun e => hg (by rw [e]; exact hp))⟩
theorem Fr.below (h : Fr S w w') {B : Nat} (hS : ∀ g, S g → B ≤ g) : Below B w w' :=
  ⟨h.1.os, h.1.tape, h.1.output, h.1.size, fun b hb => h.2.2 b (fun hs => by have := hS b hs; omega)⟩
theorem Fr.blk (h : Fr S w w') {g : Nat} {t : TypeId} {cs : Array Value} (hg : ¬ S g) (hb : Blk w g t cs) : Blk w' g t cs := (h.2.2 g hg).trans hb
theorem OwnR.fr {base : Nat} {e : TypeId} {X : Option Addr} {xs : List Value} (h : OwnR w base e X n xs) (hf : Fr S w w') (hS : ∀ g, X = some ⟨g, 0, none⟩ → ¬ S g) : OwnR w' base e X n xs :=
  ⟨h.1, fun h0 => by obtain ⟨g, cur, hA, hg, hh, ht⟩ := h.2 h0; exact ⟨g, cur, hA, hg, hf.blk (hS g hA) hh, ht⟩⟩
theorem WrR.keep {X : Option Addr} (h : WrR w S E X m) (hk : ∀ g t cs, S g → Blk w g t cs → Blk w' g t cs) : WrR w' S E X m := fun h0 => by
  obtain ⟨g, T, cur, e, hg, hb, hm, hT⟩ := h h0
  exact ⟨g, T, cur, e, hg, hk g T cur hg hb, hm, hT⟩
theorem WrF.keep {v : Value} {f : Fd} (h : WrF w S E v f) (hk : ∀ g t cs, S g → Blk w g t cs → Blk w' g t cs) : WrF w' S E v f := by
  cases f with
  | val x => trivial
  | row k xs =>
    obtain ⟨X, m, d, e, h1, h2⟩ := h
    exact ⟨X, m, d, e, h1, h2.keep hk⟩
theorem Wr.keep (h : Wr w S E m A n l) (hk : ∀ g t cs, S g → Blk w g t cs → Blk w' g t cs) : Wr w' S E m A n l :=
  ⟨h.1, fun h0 => by
    obtain ⟨g, cur, e, hg, hb, hc⟩ := h.2 h0
    exact ⟨g, cur, e, hg, hk g E cur hg hb, fun i r hr j f hf => by
      obtain ⟨v, hv, hw⟩ := hc i r hr j f hf
      exact ⟨v, hv, hw.keep hk⟩⟩⟩
theorem Wr.below (h : Wr w S E m A n l) (hb : Below w.heap.size w w') : Wr w' S E m A n l := h.keep fun g t cs _ hB => hB.below hb hB.lt
theorem Wr.fr {S' : Nat → Prop} (h : Wr w S E m A n l) (hf : Fr S' w w') (hd : ∀ g, S g → ¬ S' g) : Wr w' S E m A n l := h.keep fun g t cs hg hB => hf.blk (hd g hg) hB
theorem Wr.mono {S' : Nat → Prop} (h : Wr w S E m A n l) (hs : ∀ g, S g → S' g) : Wr w S' E m A n l :=
  ⟨h.1, fun h0 => by
    obtain ⟨g, cur, e, hg, hb, hc⟩ := h.2 h0
    refine ⟨g, cur, e, hs g hg, hb, fun i r hr j f hf => ?_⟩
    obtain ⟨v, hv, hw⟩ := hc i r hr j f hf
    refine ⟨v, hv, ?_⟩
    cases f with
    | val x => trivial
    | row k xs =>
      obtain ⟨X, m, d, e1, h1, h2⟩ := hw
      exact ⟨X, m, d, e1, h1, fun h0 => by obtain ⟨g, T, c, e, hg, r⟩ := h2 h0; exact ⟨g, T, c, e, hs g hg, r⟩⟩⟩
theorem Wr.none_ : Wr w S E m A 0 [] := ⟨rfl, fun h => absurd h (by omega)⟩
end
end Go.Proofs.Ytjmhefkmpfkpbaa
namespace Go.Proofs.Ytjmhefkmpfkpbaa
open Go Go.RowKit
theorem op_in {P : Program} {o : Oper} {a : Act} {w : World} {K : Act → World → Prop} {Q : Exit → Act → World → Prop} (l n : Nat) (hd : ∀ c, o.op ≠ .defer c) (h : o.wp P a w K Q) : o.wpIn (Fence.wide.inRound l) n P a w K Q := by
  refine ⟨fun _ _ => trivial, ?_⟩
  rw [Fence.inRound_round, Oper.semAt_some l _ _ hd]
  unfold Oper.wp at h
  generalize (execOp a.eval o).run P w = r at h ⊢
  cases r with
  | ok x w' =>
    cases x with
    | value v => exact h
    | skip => exact h
    | defer d => exact h
    | enter f args => exact ⟨fun h => by simp [Fence.wide] at h, CallsIn.inRound l (callsIn_wide.2 h)⟩
    | row row args => exact ⟨fun h => by simp [Fence.wide] at h, fun c cs _ => by obtain ⟨v, w2, hr, hs⟩ := h c cs; exact ⟨v, w2, hr, stepsIn_wide.2 hs⟩⟩
    | _ => exact h.elim
  | halt hh w' =>
    cases hh with
    | panic v => exact h
    | _ => exact h.elim
theorem any_in {P : Program} {md : Region.Mode} {ops : Array Oper} {Q : Exit → Act → World → Prop} (l n : Nat) (hd : ∀ (i : Nat) (o : Oper), ops[i]? = some o → ∀ c, o.op ≠ .defer c) (hq : ¬ LetsOut Q) : ∀ (fuel : Nat) (listed : Array Bool) (a : Act) (w : World), wpAny P md ops Q fuel listed a w → wpAnyIn (Fence.wide.inRound l) n P md ops Q fuel listed a w
  | 0, _, _, _, h => h
  | fuel + 1, listed, a, w, h => by
    refine ⟨h.1, fun i hi => ?_⟩
    have h1 := h.2 i hi
    unfold wpOp at h1
    unfold wpOpIn
    cases ho : ops[i]? with
    | none =>
      simp only [ho] at h1
      exact any_in l n hd hq fuel _ _ _ h1
    | some o =>
      simp only [ho] at h1 ⊢
      split
      · rename_i hw
        rw [if_pos hw] at h1
        rcases h1 with h1 | h1
        · exact Oper.wpIn_mono (fun a w h => any_in l n hd hq fuel _ a w h) (op_in l n (hd i o ho) h1)
        · exact absurd h1.2 hq
      · rename_i hw
        rw [if_neg hw] at h1
        exact ⟨fun _ _ => trivial, any_in l n hd hq fuel _ _ _ h1⟩
def notDefer : Op → Bool
  | .defer _ => false
  | _ => true
theorem wpIn_still_round {P : Program} {id : Nat} {Q : Exit → Act → World → Prop} {a : Act} {w : World} {l : List Oper} {l0 n0 : Nat} (n : Nat) (hm : P.follows .mixedOrders = true) (hB : Region.lexTailB .any l.toArray n = true) (hd : (l.all fun o => notDefer o.op) = true) (hq : ¬ LetsOut Q)
    (h : wpStill P l.toArray { w with drawn := w.drawn + 1 } (fun a' => wpList P l.toArray Q (l.drop n) a' { w with drawn := w.drawn + 1 }) (l.take n) a) : (Code.region id l.toArray true).wpIn (Fence.wide.inRound l0) n0 P Q a w := by
  refine wpIn_region_any hm (any_in l0 n0 ?_ hq _ _ _ _ ?_)
  · intro i o ho c e
    have h1 := List.all_eq_true.1 hd o (List.mem_of_getElem? (by simpa using ho))
    rw [e] at h1
    cases h1
  · simp only [Region.lexTailB, Bool.and_eq_true, decide_eq_true_eq] at hB
    obtain ⟨⟨⟨⟨hsel, hn⟩, hs⟩, hc⟩, hlex⟩ := hB
    have hn' : n < l.length := by simpa using hn
    have htl : (l.take n).length = n := by simp; omega
    have hdl : (l.drop n).length = l.toArray.size - n := by simp
    have start : HeadInv .any l.toArray n (Array.replicate l.toArray.size false) :=
      ⟨by simp, fun j oj _ hl => (by rw [getD_replicate_false] at hl; cases hl), fun t _ ht => getD_in (by simpa using ht) (getD_replicate_false _ _)⟩
    have H := wpAnyL_lex (md := .any) (g := l.toArray.size - n) hsel hs hc hn (l.take n) 0 _ a (fun j hj => by
      have hj' : j < n := by rw [htl] at hj; exact hj
      simp [hj']) (by simpa using htl) start (by rw [htl]; exact hlex) h
    have H2 := wpAny_of_head (Q' := Q) (g := l.toArray.size - n) (fun listed a' hL => by
      have h3 := wpAny_of_seq (md := .any) (Q' := Q) (l.drop n) n listed a' { w with drawn := w.drawn + 1 } (fun j => by simp [List.getElem?_drop]) (by rw [hdl]; exact hL.1) hL.2
      rwa [hdl] at h3) _ _ _ H
    rw [htl, show n + (l.toArray.size - n) = l.toArray.size by omega] at H2
    exact H2
end Go.Proofs.Ytjmhefkmpfkpbaa
namespace Go.Proofs.Ytjmhefkmpfkpbaa
open Go.ChangeShapes Go.WideShapes Go.ChangeAt Go.RowKit
structure Bw (B : Nat) (w0 : World) where
  w : World
  h : Below B w0 w
instance {B : Nat} {w0 : World} : Inhabited (Bw B w0) := ⟨⟨w0, Below.refl _ _⟩⟩
theorem wp_region_bw {P : Program} {id : Nat} {Q : Exit → Act → World → Prop} {a : Act} {w : World} {l : List Oper} (B : Nat) (w0 : World) (hw : Below B w0 w) (hm : P.follows .mixedOrders = true) (hB : Region.lexB .any l.toArray = true)
    (h : wpQuiet P l.toArray (fun w' => ∃ p : Bw B w0, w' = p.w) (fun a' => ∀ w', (∃ p : Bw B w0, w' = p.w) → Q .normal a' w') l a) : (Code.region id l.toArray true).wp P Q a w :=
  wp_region_quiet (C := fun w' => ∃ p : Bw B w0, w' = p.w) hm hB ⟨⟨_, hw.drew⟩, rfl⟩ (by simpa using h)
theorem Calls.bw {P : Program} {f : FuncId} {args : Array Value} {B : Nat} {w0 : World} {p : Bw B w0} {v : Value} (h : Calls P f args p.w fun e w' => e = .returned v ∧ Below p.w.heap.size p.w w') (hB : B ≤ w0.heap.size) : Calls P f args p.w fun e w'' => e = .returned v ∧ ∃ q : Bw B w0, w'' = q.w :=
  h.mono fun _ w' ⟨he, hb⟩ => ⟨he, ⟨w', p.h.trans (hb.mono (Nat.le_trans hB p.h.size))⟩, rfl⟩
theorem step_append_any {P : Program} (w : World) {ops : Array Oper} {o : Oper} {a : Act} {K : Act → World → Prop} {Q : Exit → Act → World → Prop} {E : Prop} (hgd : o.guard = none) (s x : Operand) (t : TypeId)
    (ho : o.op = .call { callee := .builtin .append, args := #[s, x], argTypes := #[t, t] })
    (base : Nat) (e : TypeId) (i : TypeInfo) (z : Value) (size bytes : Nat) (ht : P.underlying t = some (.slice e)) (hi : P.info? e = some i) (hz : i.zero = some z)
    (hsize : i.size = size) (hby : i.bytes = bytes) (hzs : z.cells.size = size) (hsz : 0 < size)
    (v : Value) (n : Nat) (xs : List Value) (hs : a.eval s = v) (hown : w.ownsRow base e size v n xs)
    (B : Nat) (A : Option Addr) (m c : Nat) (news : List Value) (hx : a.eval x = .slice A m c) (hr : Reads w B size A m news) (h1 : ∀ u ∈ news, u.oneCell' = true)
    (h63 : n + m ≤ maxLen) (hbytes : (n + m) * bytes ≤ 140737488355328) (hbase : base ≤ w.heap.size)
    (h : ∀ v' w', w'.ownsRow base e size v' (n + m) (xs ++ news) → w.grownBy w' v.ownBlock → (v'.ownBlock = v.ownBlock ∨ v'.ownBlock = some w.heap.size) → K (a.put o.dst v') w') :
    if Region.wanted o (yielded ops a.tmps) = true then Oper.wp P o a w K Q else E := by
  have hw : Region.wanted o (yielded ops a.tmps) = true := by simp [Region.wanted, hgd]
  rw [if_pos hw]
  exact wp_append_any w s x t ho base e i z size bytes ht hi hz hsize hby hzs hsz v n xs hs hown B A m c news hx hr h1 h63 hbytes hbase h
end Go.Proofs.Ytjmhefkmpfkpbaa
namespace Go.Proofs.Ytjmhefkmpfkpbaa
open Go.ChangeShapes Go.WideShapes Go.ChangeAt Go.RowKit
theorem wpQuiet_mono {P : Program} {ops : Array Oper} {C : World → Prop} {Q Q' : Act → Prop} (h : ∀ a, Q a → Q' a) : ∀ (l : List Oper) (a : Act), wpQuiet P ops C Q l a → wpQuiet P ops C Q' l a
  | [], a, hh => h a hh
  | o :: r, a, hh => by
    unfold wpQuiet at hh ⊢
    by_cases hw : Region.wanted o (yielded ops a.tmps) = true
    · rw [if_pos hw] at hh ⊢
      exact Oper.quiet_mono (fun a ha => wpQuiet_mono h r a ha) hh
    · rw [if_neg hw] at hh ⊢
      exact wpQuiet_mono h r _ hh
/-- The walk behind a structure, so that nothing unfolds it. -/
structure WQ (P : Program) (ops : Array Oper) (C : World → Prop) (Q : Act → Prop) (l : List Oper) (a : Act) : Prop where
  out : wpQuiet P ops C Q l a
theorem WQ.nil {P : Program} {ops : Array Oper} {C : World → Prop} {Q : Act → Prop} {a : Act} (h : Q a) : WQ P ops C Q [] a := ⟨h⟩
/-- One operation: its guard lets it by; its guard does not. -/
theorem WQ.yes {P : Program} {ops : Array Oper} {C : World → Prop} {Q : Act → Prop} {a : Act} {o : Oper} {rest : List Oper} (hw : Region.wanted o (yielded ops a.tmps) = true)
    (h : ∀ K : Act → Prop, (∀ a, WQ P ops C Q rest a → K a) → o.quiet P a C K) : WQ P ops C Q (o :: rest) a := by
  refine ⟨?_⟩
  unfold wpQuiet
  rw [if_pos hw]
  exact h _ (fun _ h => h.out)
theorem WQ.no {P : Program} {ops : Array Oper} {C : World → Prop} {Q : Act → Prop} {a : Act} {o : Oper} {rest : List Oper} (hw : Region.wanted o (yielded ops a.tmps) = false)
    (h : WQ P ops C Q rest (a.put o.dst undef)) : WQ P ops C Q (o :: rest) a := by
  refine ⟨?_⟩
  unfold wpQuiet
  rw [if_neg (by rw [hw]; decide)]
  exact h.out
theorem wp_region_wq {P : Program} {id : Nat} {Q : Exit → Act → World → Prop} {a : Act} {w : World} {l : List Oper} (B : Nat) (w0 : World) (hw : Below B w0 w) (hm : P.follows .mixedOrders = true) (hB : Region.lexB .any l.toArray = true)
    (h : WQ P l.toArray (fun w' => ∃ p : Bw B w0, w' = p.w) (fun a' => ∀ p : Bw B w0, Q .normal a' p.w) l a) : (Code.region id l.toArray true).wp P Q a w :=
  wp_region_bw B w0 hw hm hB (wpQuiet_mono (fun a ha w' hw' => by obtain ⟨p, rfl⟩ := hw'; exact ha p) l a h.out)
end Go.Proofs.Ytjmhefkmpfkpbaa
namespace Go.Proofs.Ytjmhefkmpfkpbaa
open Go
section
variable {F : Fence} {n : Nat} {P : Program} {ops : Array Oper} {Q : Exit → Act → World → Prop} {md : Region.Mode} {S : World → Prop}
/-- It yields wherever S holds, and calls nothing. -/
def YldS (P : Program) (ops : Array Oper) (S : World → Prop) (o : Oper) (v : Value) (a : Act) : Prop := YieldsIf P ops S o v a ∧ ∀ w, o.about P w a.eval = none
theorem YldS.same {o : Oper} {v : Value} {a a' : Act} (hy : YldS P ops S o v a) (he : execOp a'.eval o = execOp a.eval o)
    (hw : Region.wanted o (yielded ops a'.tmps) = Region.wanted o (yielded ops a.tmps)) (hb : ∀ w, o.about P w a'.eval = o.about P w a.eval) : YldS P ops S o v a' :=
  ⟨hy.1.of_same he hw, fun w => (hb w).trans (hy.2 w)⟩
theorem YldS.step {i : Nat} {o : Oper} {v : Value} {a : Act} {w : World} {K : Act → World → Prop} (hro : F.round = none) (hi : ops[i]? = some o) (hy : YldS P ops S o v a) (hS : S w) (h : K (a.put o.dst v) w) : wpOpIn F n P ops Q i K a w := by
  have hab : ∀ f, o.about P w a.eval = some f → F.fn f := fun f hf => by rw [hy.2 w] at hf; cases hf
  unfold wpOpIn
  simp only [hi]
  rcases hy.1 with ⟨hw, hv⟩ | ⟨hw, rfl⟩
  · simp only [hw, if_true, Oper.wpIn, hro, Oper.semAt_none, hv w hS, Oper.uponIn]
    exact ⟨hab, h⟩
  · simp only [hw, Bool.false_eq_true, if_false]
    exact ⟨hab, h⟩
theorem YldS.put {j : Nat} {oi oj : Oper} {v : Value} {a : Act} {w : World} {K : Act → World → Prop} (hro : F.round = none) (hj : ops[j]? = some oj) (hap : oi.apart ops oj = true)
    (hsi : ∀ cs b, oi.op ≠ .select cs b) (hsj : ∀ cs b, oj.op ≠ .select cs b) (hQ : ∀ c a w, Q (.panic c) (a.put oi.dst v) w → Q (.panic c) a w)
    (hy : YldS P ops S oi v a) (h : wpOpIn F n P ops Q j K (a.put oi.dst v) w) : wpOpIn F n P ops Q j (fun a' w' => YldS P ops S oi v a' ∧ K (a'.put oi.dst v) w') a w := by
  obtain ⟨h1, h2, h3⟩ := Oper.apart_spec hap
  have keep : ∀ b : Act, YldS P ops S oi v b → ∀ u, YldS P ops S oi v (b.put oj.dst u) := fun b hb u => hb.same (execOp_put oi hsi b oj.dst u h3) (wanted_put oi b oj.dst u h3) (fun w => about_put oi w b oj.dst u h3)
  have swap : ∀ (b : Act) (u : Value), (b.put oj.dst u).put oi.dst v = (b.put oi.dst v).put oj.dst u := fun b u => (Act.put_comm b v u h2).symm
  unfold wpOpIn at *
  simp only [hj] at *
  rw [wanted_put oj a oi.dst v h1, about_put oj w a oi.dst v h1] at h
  by_cases hw : Region.wanted oj (yielded ops a.tmps) = true
  · rw [if_pos hw] at h ⊢
    unfold Oper.wpIn at h ⊢
    rw [about_put oj w a oi.dst v h1, hro, Oper.semAt_none, execOp_put oj hsj a oi.dst v h1] at h
    rw [hro, Oper.semAt_none]
    refine ⟨h.1, ?_⟩
    have h0 := h.2
    clear h
    generalize (execOp a.eval oj).run P w = r at h0 ⊢
    cases r with
    | ok x w' =>
      cases x with
      | value u => exact ⟨keep a hy u, by rw [swap]; exact h0⟩
      | skip => exact ⟨keep a hy _, by rw [swap]; exact h0⟩
      | defer d =>
        refine ⟨keep { a with defers := d :: a.defers } (hy.same rfl rfl (fun _ => rfl)) _, ?_⟩
        rw [swap, ← Act.put_defers]
        exact h0
      | enter f args =>
        refine ⟨h0.1, h0.2.mono fun e w2 he => ?_⟩
        cases e with
        | returned u => exact ⟨keep a hy u, by rw [swap]; exact he⟩
        | panicked c => exact hQ _ _ _ he
        | outgrown => exact he
      | row row args => exact ⟨h0.1, h0.2.mono fun u w2 he => ⟨keep a hy u, by rw [swap]; exact he⟩⟩
      | round l f tmps assign body =>
        refine ⟨h0.1, h0.2.mono fun e w2 he => ?_⟩
        cases e with
        | returned u => exact ⟨keep a hy u, by rw [swap]; exact he⟩
        | panicked c => exact hQ _ _ _ he
        | outgrown => exact he
      | _ => exact h0
    | halt x w' =>
      cases x with
      | panic u => exact hQ _ _ _ h0
      | _ => exact h0
  · rw [if_neg hw] at h ⊢
    exact ⟨h.1, keep a hy _, by rw [swap]; exact h.2⟩
/-- The ways out, a panic left out. -/
def NoPan (Q : Exit → Act → World → Prop) : Exit → Act → World → Prop
  | .panic _, _, _ => False
  | e, a, w => Q e a w
theorem NoPan.normal {a : Act} {w : World} (h : Q .normal a w) : NoPan Q .normal a w := h
theorem NoPan.imp : ∀ (e : Exit) (a : Act) (w : World), NoPan Q e a w → Q e a w
  | .panic _, _, _, h => h.elim
  | .normal, _, _, h => h
  | .ret, _, _, h => h
  | .exit _, _, _, h => h
  | .goto _, _, _, h => h
  | .outgrown, _, _, h => h
end
end Go.Proofs.Ytjmhefkmpfkpbaa
namespace Go.Proofs.Ytjmhefkmpfkpbaa
open Go.ChangeShapes Go.WideShapes Go.ChangeAt Go.RowKit
section
variable {P : Program} {w : World} {g : Nat} {t : TypeId} {cs : Array Value}
theorem Blk.row (h : Blk w g t cs) : w.heap[g]? = some (.cells cs t (0, 0)) := h
theorem Blk.setRow (h : Blk w g t cs) (ds : Array Value) : Blk (w.setRow g ds) g t ds := setRow_heap w g cs ds t (0, 0) h
theorem Blk.setRow_far (h : Blk w g t cs) {k : Nat} (hk : g ≠ k) (ds : Array Value) : Blk (w.setRow k ds) g t cs := by
  unfold Blk
  rw [setRow_other w k g ds hk]
  exact h
theorem Blk.range (h : Blk w g t cs) (o : Nat) (ds : List Value) (hs : (cs.toList.drop o).take ds.length = ds) : w.rangeAt g o ds := fun j v hv => by
  rw [h.cell]
  rw [← hs, List.getElem?_take] at hv
  split at hv
  · rw [List.getElem?_drop, Array.getElem?_toList] at hv
    exact hv
  · cases hv
/-- A load of many cells in a quiet region. -/
theorem quiet_load_mid {op : Oper} {a : Act} {K : Act → Prop} {B : Nat} {w0 : World} (ty : TypeId) (x : Operand) (ho : op.op = .load ty x) (b o : Nat) (hx : a.eval x = .pointer (some ⟨b, o, none⟩)) (ds : List Value) (d : TypeDesc)
    (hc : ∀ q : Bw B w0, q.w.rangeAt b o ds) (hu : P.underlying ty = some d) (hd : d.isRow = true) (hi : (P.info? ty).map (·.size) = some ds.length)
    (h : K (a.put op.dst (.agg ds.toArray))) : op.quiet P a (fun w' => ∃ p : Bw B w0, w' = p.w) K := by
  refine ⟨.agg ds.toArray, fun w hw => ?_, h⟩
  obtain ⟨p, rfl⟩ := hw
  unfold Oper.quietAt execOp
  simp only [ho, hx, Instr.loadAt, Instr.sureAddr, Sem.run_bind, Sem.run_pure, Result.andThen_ok, run_loadVar_mid p.w b o ty ds d (hc p) hu hd hi]
  exact ⟨rfl, rfl⟩
end
end Go.Proofs.Ytjmhefkmpfkpbaa
namespace Go.Proofs.Ytjmhefkmpfkpbaa
open Go.ChangeShapes Go.WideShapes Go.ChangeAt Go.RowKit
section
variable {P : Program} {md : Region.Mode} {ops : Array Oper} {Q : Exit → Act → World → Prop} {S : World → Prop}
/-- An operation that reads is taken first. -/
theorem tkY (i : Nat) {oi : Oper} {v : Value} {fuel : Nat} {listed : Array Bool} {a : Act} {w : World} (hi : ops[i]? = some oi := by (simp only [List.getElem?_toArray, List.getElem?_cons_zero, List.getElem?_cons_succ]; rfl))
    (hs : Region.noSelect ops = true := by kernel_rfl) (hf : Region.free md ops listed i = true := by kernel_rfl) (hr : (Region.ready md ops listed).contains i = true := by kernel_rfl)
    (hw : Region.wanted oi (yielded ops a.tmps) = true := by rfl) (hS : S w := by assumption) (hQ : ∀ c a w, Q (.panic c) (a.put oi.dst v) w → Q (.panic c) a w := by exact fun _ _ _ h => h)
    (hy : ∀ w, S w → (execOp a.eval oi).run P w = .ok (.value v) w := by (intro w hSw; (try dsimp only at hSw); go_simp; (try with_reducible rfl))) (h : wpAnyH P md ops Q S fuel (listed.setIfInBounds i true) (a.put oi.dst v) w) : wpAnyH P md ops Q S (fuel + 1) listed a w :=
  wpAnyH_take hi hs hf hr hQ (Or.inl ⟨hw, hy⟩) hS h
/-- What alone may come up comes up. -/
theorem tkR (i : Nat) {o : Oper} {fuel : Nat} {listed : Array Bool} {a : Act} {w : World} (ho : ops[i]? = some o := by (simp only [List.getElem?_toArray, List.getElem?_cons_zero, List.getElem?_cons_succ]; rfl)) (hr : Region.ready md ops listed = [i] := by kernel_rfl)
    (h : ∀ K' : Act → World → Prop, Shut (∀ a w, S w → (S w → wpAnyH P md ops Q S fuel (listed.setIfInBounds i true) a w) → K' a w) → if Region.wanted o (yielded ops a.tmps) = true then Oper.wp P o a w K' Q else K' (a.put o.dst undef) w) : wpAnyH P md ops Q S (fuel + 1) listed a w :=
  wpAnyH_ready hr (by simp) (AllReadyH.cons ho h AllReadyH.nil)
end
end Go.Proofs.Ytjmhefkmpfkpbaa
namespace Go.Proofs.Ytjmhefkmpfkpbaa
open Go.ChangeShapes Go.WideShapes Go.ChangeAt Go.RowKit
theorem lsA {α : Type} (l : List α) (i : Nat) (a : α) : l.toArray.setIfInBounds i a = (l.set i a).toArray := List.setIfInBounds_toArray l i a
theorem lsZ {α : Type} {x : α} {xs : List α} {a : α} : (x :: xs).set 0 a = a :: xs := rfl
theorem lsS {α : Type} {x : α} {xs : List α} {i : Nat} {a : α} : (x :: xs).set (i + 1) a = x :: xs.set i a := rfl
theorem lgA {α : Type} {xs : List α} {i : Nat} : xs.toArray[i]? = xs[i]? := List.getElem?_toArray
theorem lgZ {α : Type} {a : α} {l : List α} : (a :: l)[0]? = some a := List.getElem?_cons_zero
theorem lgS {α : Type} {a : α} {i : Nat} {l : List α} : (a :: l)[i + 1]? = l[i]? := List.getElem?_cons_succ
section
variable {F : Fence} {n : Nat} {P : Program} {md : Region.Mode} {ops : Array Oper} {Q : Exit → Act → World → Prop}
theorem inY (i : Nat) {oi : Oper} {v : Value} {fuel : Nat} {listed : Array Bool} {a : Act} {w : World} (hro : F.round = none := by rfl) (hi : ops[i]? = some oi := by (simp only [lgA, lgZ, lgS]; rfl))
    (hs : Region.noSelect ops = true := by kernel_rfl) (hf : Region.free md ops listed i = true := by kernel_rfl) (hr : (Region.ready md ops listed).contains i = true := by kernel_rfl)
    (hw : Region.wanted oi (yielded ops a.tmps) = true := by rfl) (hQ : ∀ c a w, Q (.panic c) (a.put oi.dst v) w → Q (.panic c) a w := by exact fun _ _ _ h => h) (ha : ∀ w, oi.about P w a.eval = none := by exact fun _ => rfl)
    (hy : ∀ w, (execOp a.eval oi).run P w = .ok (.value v) w := by (intro w; go_simp; (try with_reducible rfl)))
    (h : wpAnyIn F n P md ops Q fuel (listed.setIfInBounds i true) (a.put oi.dst v) w) : wpAnyIn F n P md ops Q (fuel + 1) listed a w :=
  wpAnyIn_take hro hi hs hf hr hQ ⟨Or.inl ⟨hw, hy⟩, ha⟩ h
theorem inN (i : Nat) {oi : Oper} {fuel : Nat} {listed : Array Bool} {a : Act} {w : World} (hro : F.round = none := by rfl) (hi : ops[i]? = some oi := by (simp only [lgA, lgZ, lgS]; rfl))
    (hs : Region.noSelect ops = true := by kernel_rfl) (hf : Region.free md ops listed i = true := by kernel_rfl) (hr : (Region.ready md ops listed).contains i = true := by kernel_rfl)
    (hw : Region.wanted oi (yielded ops a.tmps) = false := by rfl) (hQ : ∀ c a w, Q (.panic c) (a.put oi.dst undef) w → Q (.panic c) a w := by exact fun _ _ _ h => h) (ha : ∀ w, oi.about P w a.eval = none := by exact fun _ => rfl)
    (h : wpAnyIn F n P md ops Q fuel (listed.setIfInBounds i true) (a.put oi.dst undef) w) : wpAnyIn F n P md ops Q (fuel + 1) listed a w :=
  wpAnyIn_take hro hi hs hf hr hQ ⟨Or.inr ⟨hw, rfl⟩, ha⟩ h
end
end Go.Proofs.Ytjmhefkmpfkpbaa
