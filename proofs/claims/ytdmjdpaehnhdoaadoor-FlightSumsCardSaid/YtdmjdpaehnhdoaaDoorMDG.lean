/- Mass: masses: what they read as; the iterator as a contract | Mass: whether two masses are the same | Mass: copies of masses | Mass: the reference's masses: great ones, the same ones, copies -/
import Derived.Shelf.Abstract
import Derived.Test.YtdmjdpaehnhdoaaDoorMC
import Derived.Test.YtdmjdpaehnhdoaaDoorKA
namespace Go.Proofs.YtdmjdpaehnhdoaaDoor
open Go.Shelf Go.ChangeShapes Go.WideShapes Go.ChangeAt Go.RowKit
set_option linter.unusedSimpArgs false
set_option linter.unusedVariables false
structure Ms where
  s : Dy
  w : Dy
  c : Dy
  a : Dy
deriving DecidableEq
/-- A dyad by value, as it reads. -/
def RdD (w : World) (B : Nat) (g : Bool) (X : Option Addr) (n c : Nat) (e : Int) (d : Dy) : Prop := d.neg = g ∧ d.ex = e ∧ d.ls.length = n ∧ n ≤ c ∧ Reads w B 1 X n (ints .u32 d.ls)
theorem RdD.below {w w' : World} {B B' : Nat} {g : Bool} {X : Option Addr} {n c : Nat} {e : Int} {d : Dy} (h : RdD w B g X n c e d) (hb : Below B w w') (hB : B ≤ B') : RdD w' B' g X n c e d := ⟨h.1, h.2.1, h.2.2.1, h.2.2.2.1, (h.2.2.2.2.below hb).more hB⟩
/-- Limbs of bounded number. -/
def smM (m : Ms) : Prop := m.s.ls.length ≤ 100000 ∧ m.w.ls.length ≤ 100000 ∧ m.c.ls.length ≤ 100000 ∧ m.a.ls.length ≤ 100000
def RdM (w : World) (B : Nat) (ag0 : Bool) (aX0 : Option Addr) (an0 ac0 : Nat) (ae0 : Int) (ag1 : Bool) (aX1 : Option Addr) (an1 ac1 : Nat) (ae1 : Int) (ag2 : Bool) (aX2 : Option Addr) (an2 ac2 : Nat) (ae2 : Int) (ag3 : Bool) (aX3 : Option Addr) (an3 ac3 : Nat) (ae3 : Int) (m : Ms) : Prop :=
  RdD w B ag0 aX0 an0 ac0 ae0 m.s ∧ RdD w B ag1 aX1 an1 ac1 ae1 m.w ∧ RdD w B ag2 aX2 an2 ac2 ae2 m.c ∧ RdD w B ag3 aX3 an3 ac3 ae3 m.a
theorem RdM.below {w w' : World} {B B' : Nat} {ag0 : Bool} {aX0 : Option Addr} {an0 ac0 : Nat} {ae0 : Int} {ag1 : Bool} {aX1 : Option Addr} {an1 ac1 : Nat} {ae1 : Int} {ag2 : Bool} {aX2 : Option Addr} {an2 ac2 : Nat} {ae2 : Int} {ag3 : Bool} {aX3 : Option Addr} {an3 ac3 : Nat} {ae3 : Int} {m : Ms} (h : RdM w B ag0 aX0 an0 ac0 ae0 ag1 aX1 an1 ac1 ae1 ag2 aX2 an2 ac2 ae2 ag3 aX3 an3 ac3 ae3 m) (hb : Below B w w') (hB : B ≤ B') : RdM w' B' ag0 aX0 an0 ac0 ae0 ag1 aX1 an1 ac1 ae1 ag2 aX2 an2 ac2 ae2 ag3 aX3 an3 ac3 ae3 m := ⟨h.1.below hb hB, h.2.1.below hb hB, h.2.2.1.below hb hB, h.2.2.2.below hb hB⟩
theorem parts_seq (n g1 g2 ga gb : Nat) (hn : 1 ≤ n) (w0 : World) (h1 : w0.cell? ⟨g1, 0, none⟩ = some (.pointer (some ⟨ga, 0, none⟩))) (h2 : w0.cell? ⟨g2, 0, none⟩ = some (.pointer (some ⟨gb, 0, none⟩))) :
    SeqStopsK Fence.wide n Tryd.prog 75 #[.pointer (some ⟨g1, 0, none⟩), .pointer (some ⟨g2, 0, none⟩)] (encM ga gb) (KpM g1 g2) (fun ys => ys = [p0, p1, p2, p3]) (fun _ => True) 4 w0 := by
  intro l J Jx W hB hJ hJx hY h0
  have l1 := World.block_lt_of_cell? w0 _ h1
  have l2 := World.block_lt_of_cell? w0 _ h2
  exact parts_in n l g1 g2 ga gb hn J Jx W hY ⟨(hB.cell (p := ⟨g1, 0, none⟩) l1).trans h1, (hB.cell (p := ⟨g2, 0, none⟩) l2).trans h2⟩ (fun s A h => hJ s A _ none h ⟨rfl, rfl, rfl, Nat.le_refl _, fun _ _ _ => rfl⟩ (fun r e => by cases e)) h0
theorem parts_any (a b : Addr) (w : World) : Calls Tryd.prog 50 #[.pointer (some a), .pointer (some b)] w fun en w' => en = .returned (.func (.func 75) #[] #[.pointer (some ⟨w.heap.size, 0, none⟩), .pointer (some ⟨w.heap.size + 1, 0, none⟩)]) ∧ w' = (w.alloc (.cells #[.pointer (some a)] 79)).alloc (.cells #[.pointer (some b)] 79) := by
  go_enter Tryd.func50, Tryd.ntmps50
  go_wp2
  go_ret
  exact ⟨rfl, rfl⟩
theorem kpM_b {g1 g2 : Nat} {w : World} (h1 : g1 < w.heap.size) (h2 : g2 < w.heap.size) (W : World) (l : Nat) (o o' : Obj) (hl : w.heap.size ≤ l) (ho : W.heap[l]? = some o) (hc : o.isCells = false) (hw : o.isWalk = false) : KpM g1 g2 W (W.putObj l o') :=
  ⟨World.cell?_of_block ((grownBy_putObj' W l o').block g1 (by have := (Array.getElem?_eq_some_iff.1 ho).1; omega) (fun e => by injection e; omega)), World.cell?_of_block ((grownBy_putObj' W l o').block g2 (by have := (Array.getElem?_eq_some_iff.1 ho).1; omega) (fun e => by injection e; omega))⟩
theorem blk_own {β : Type} (g : Nat) (t : TypeId) (cs : β → Array Value) : Own (fun (s : β) W => Blk W g t (cs s)) := fun s A B row hs hg hr => by
  refine Blk.grown hs hg (fun e => ?_)
  obtain ⟨o, ho, hc⟩ := hr g e.symm
  unfold Blk at hs
  rw [hs] at ho
  injection ho with ho
  subst ho
  cases hc
end Go.Proofs.YtdmjdpaehnhdoaaDoor
namespace Go.Proofs.YtdmjdpaehnhdoaaDoor
open Go.Shelf Go.ChangeShapes Go.WideShapes Go.ChangeAt Go.RowKit
set_option linter.unusedSimpArgs false
set_option linter.unusedVariables false
/-- Part k of a mass. -/
def prt (m : Ms) : Nat → Dy
  | 0 => m.s
  | 1 => m.w
  | 2 => m.c
  | _ => m.a
theorem ms_eq {m k : Ms} (h : ∀ i, i < 4 → prt m i = prt k i) : m = k := by
  cases m; cases k
  have h0 := h 0 (by omega)
  have h1 := h 1 (by omega)
  have h2 := h 2 (by omega)
  have h3 := h 3 (by omega)
  simp only [prt] at h0 h1 h2 h3
  rw [h0, h1, h2, h3]
attribute [local go_sem] Oper.semAt_some
set_option maxRecDepth 100000 in
set_option maxHeartbeats 8000000 in
theorem msame_any (ag0 : Bool) (aX0 : Option Addr) (an0 ac0 : Nat) (ae0 : Int) (ag1 : Bool) (aX1 : Option Addr) (an1 ac1 : Nat) (ae1 : Int) (ag2 : Bool) (aX2 : Option Addr) (an2 ac2 : Nat) (ae2 : Int) (ag3 : Bool) (aX3 : Option Addr) (an3 ac3 : Nat) (ae3 : Int) (bg0 : Bool) (bX0 : Option Addr) (bn0 bc0 : Nat) (be0 : Int) (bg1 : Bool) (bX1 : Option Addr) (bn1 bc1 : Nat) (be1 : Int) (bg2 : Bool) (bX2 : Option Addr) (bn2 bc2 : Nat) (be2 : Int) (bg3 : Bool) (bX3 : Option Addr) (bn3 bc3 : Nat) (be3 : Int) (m k : Ms) (hsm : smM m) (hsk : smM k) (w : World) (ra : RdM w w.heap.size ag0 aX0 an0 ac0 ae0 ag1 aX1 an1 ac1 ae1 ag2 aX2 an2 ac2 ae2 ag3 aX3 an3 ac3 ae3 m) (rb : RdM w w.heap.size bg0 bX0 bn0 bc0 be0 bg1 bX1 bn1 bc1 be1 bg2 bX2 bn2 bc2 be2 bg3 bX3 bn3 bc3 be3 k) (R : Bool) (hR : decide (m = k) = R) :
    Calls Tryd.prog 24 #[.agg #[.bool ag0, .slice aX0 an0 ac0, .int .i64 ae0, .bool ag1, .slice aX1 an1 ac1, .int .i64 ae1, .bool ag2, .slice aX2 an2 ac2, .int .i64 ae2, .bool ag3, .slice aX3 an3 ac3, .int .i64 ae3], .agg #[.bool bg0, .slice bX0 bn0 bc0, .int .i64 be0, .bool bg1, .slice bX1 bn1 bc1, .int .i64 be1, .bool bg2, .slice bX2 bn2 bc2, .int .i64 be2, .bool bg3, .slice bX3 bn3 bc3, .int .i64 be3]] w fun en w' => en = .returned (.bool R) ∧ Below w.heap.size w w' := by
  refine (callsIn_wide (n := 6)).1 ?_
  refine callsIn_of_wp_marks Tryd.func24 rfl trivial ?_ rfl
  simp only [Tryd.ntmps24, List.size_toArray, List.length_cons, List.length_nil, Nat.reduceAdd, Nat.reduceSub, Array.replicate_succ, Array.replicate_zero, List.push_toArray, List.append_toArray, List.nil_append, List.cons_append]
  have gra := Lib.hid ra
  have grb := Lib.hid rb
  have gR := Lib.hid hR
  have gsm := Lib.hid (And.intro hsm hsk)
  clear ra rb hR hsm hsk
  have hpt := parts_any ⟨w.heap.size, 0, none⟩ ⟨w.heap.size + 1, 0, none⟩ (((w.alloc (.cells #[.bool ag0, .slice aX0 an0 ac0, .int .i64 ae0, .bool ag1, .slice aX1 an1 ac1, .int .i64 ae1, .bool ag2, .slice aX2 an2 ac2, .int .i64 ae2, .bool ag3, .slice aX3 an3 ac3, .int .i64 ae3] 27)).alloc (.cells #[.bool bg0, .slice bX0 bn0 bc0, .int .i64 be0, .bool bg1, .slice bX1 bn1 bc1, .int .i64 be1, .bool bg2, .slice bX2 bn2 bc2, .int .i64 be2, .bool bg3, .slice bX3 bn3 bc3, .int .i64 be3] 27)).alloc (.cells #[.bool false] 4))
  simp only [World.size_alloc] at hpt
  obtain ⟨W5, hW5⟩ : ∃ W5, W5 = (((((w.alloc (.cells #[.bool ag0, .slice aX0 an0 ac0, .int .i64 ae0, .bool ag1, .slice aX1 an1 ac1, .int .i64 ae1, .bool ag2, .slice aX2 an2 ac2, .int .i64 ae2, .bool ag3, .slice aX3 an3 ac3, .int .i64 ae3] 27)).alloc (.cells #[.bool bg0, .slice bX0 bn0 bc0, .int .i64 be0, .bool bg1, .slice bX1 bn1 bc1, .int .i64 be1, .bool bg2, .slice bX2 bn2 bc2, .int .i64 be2, .bool bg3, .slice bX3 bn3 bc3, .int .i64 be3] 27)).alloc (.cells #[.bool false] 4)).alloc (.cells #[.pointer (some ⟨w.heap.size, 0, none⟩)] 79)).alloc (.cells #[.pointer (some ⟨w.heap.size + 1, 0, none⟩)] 79)) := ⟨_, rfl⟩
  have B0 : Blk W5 w.heap.size 27 #[.bool ag0, .slice aX0 an0 ac0, .int .i64 ae0, .bool ag1, .slice aX1 an1 ac1, .int .i64 ae1, .bool ag2, .slice aX2 an2 ac2, .int .i64 ae2, .bool ag3, .slice aX3 an3 ac3, .int .i64 ae3] := by rw [hW5]; exact ((((Blk.new w _ _).alloc _).alloc _).alloc _).alloc _
  have B1 : Blk W5 (w.heap.size + 1) 27 #[.bool bg0, .slice bX0 bn0 bc0, .int .i64 be0, .bool bg1, .slice bX1 bn1 bc1, .int .i64 be1, .bool bg2, .slice bX2 bn2 bc2, .int .i64 be2, .bool bg3, .slice bX3 bn3 bc3, .int .i64 be3] := by
    have := (((Blk.new (w.alloc (.cells #[.bool ag0, .slice aX0 an0 ac0, .int .i64 ae0, .bool ag1, .slice aX1 an1 ac1, .int .i64 ae1, .bool ag2, .slice aX2 an2 ac2, .int .i64 ae2, .bool ag3, .slice aX3 an3 ac3, .int .i64 ae3] 27)) 27 #[.bool bg0, .slice bX0 bn0 bc0, .int .i64 be0, .bool bg1, .slice bX1 bn1 bc1, .int .i64 be1, .bool bg2, .slice bX2 bn2 bc2, .int .i64 be2, .bool bg3, .slice bX3 bn3 bc3, .int .i64 be3]).alloc (.cells #[.bool false] 4)).alloc (.cells #[.pointer (some ⟨w.heap.size, 0, none⟩)] 79)).alloc (.cells #[.pointer (some ⟨w.heap.size + 1, 0, none⟩)] 79)
    rw [World.size_alloc] at this
    rw [hW5]; exact this
  have B2 : Blk W5 (w.heap.size + 2) 4 #[.bool false] := by
    have := ((Blk.new ((w.alloc (.cells #[.bool ag0, .slice aX0 an0 ac0, .int .i64 ae0, .bool ag1, .slice aX1 an1 ac1, .int .i64 ae1, .bool ag2, .slice aX2 an2 ac2, .int .i64 ae2, .bool ag3, .slice aX3 an3 ac3, .int .i64 ae3] 27)).alloc (.cells #[.bool bg0, .slice bX0 bn0 bc0, .int .i64 be0, .bool bg1, .slice bX1 bn1 bc1, .int .i64 be1, .bool bg2, .slice bX2 bn2 bc2, .int .i64 be2, .bool bg3, .slice bX3 bn3 bc3, .int .i64 be3] 27)) 4 #[.bool false]).alloc (.cells #[.pointer (some ⟨w.heap.size, 0, none⟩)] 79)).alloc (.cells #[.pointer (some ⟨w.heap.size + 1, 0, none⟩)] 79)
    rw [World.size_alloc, World.size_alloc] at this
    rw [hW5]; exact this
  have B3 : Blk W5 (w.heap.size + 3) 79 #[.pointer (some ⟨w.heap.size, 0, none⟩)] := by
    have := (Blk.new (((w.alloc (.cells #[.bool ag0, .slice aX0 an0 ac0, .int .i64 ae0, .bool ag1, .slice aX1 an1 ac1, .int .i64 ae1, .bool ag2, .slice aX2 an2 ac2, .int .i64 ae2, .bool ag3, .slice aX3 an3 ac3, .int .i64 ae3] 27)).alloc (.cells #[.bool bg0, .slice bX0 bn0 bc0, .int .i64 be0, .bool bg1, .slice bX1 bn1 bc1, .int .i64 be1, .bool bg2, .slice bX2 bn2 bc2, .int .i64 be2, .bool bg3, .slice bX3 bn3 bc3, .int .i64 be3] 27)).alloc (.cells #[.bool false] 4)) 79 #[.pointer (some ⟨w.heap.size, 0, none⟩)]).alloc (.cells #[.pointer (some ⟨w.heap.size + 1, 0, none⟩)] 79)
    simp only [World.size_alloc] at this
    rw [hW5]; exact this
  have B4 : Blk W5 (w.heap.size + 4) 79 #[.pointer (some ⟨w.heap.size + 1, 0, none⟩)] := by
    have := Blk.new ((((w.alloc (.cells #[.bool ag0, .slice aX0 an0 ac0, .int .i64 ae0, .bool ag1, .slice aX1 an1 ac1, .int .i64 ae1, .bool ag2, .slice aX2 an2 ac2, .int .i64 ae2, .bool ag3, .slice aX3 an3 ac3, .int .i64 ae3] 27)).alloc (.cells #[.bool bg0, .slice bX0 bn0 bc0, .int .i64 be0, .bool bg1, .slice bX1 bn1 bc1, .int .i64 be1, .bool bg2, .slice bX2 bn2 bc2, .int .i64 be2, .bool bg3, .slice bX3 bn3 bc3, .int .i64 be3] 27)).alloc (.cells #[.bool false] 4)).alloc (.cells #[.pointer (some ⟨w.heap.size, 0, none⟩)] 79)) 79 #[.pointer (some ⟨w.heap.size + 1, 0, none⟩)]
    simp only [World.size_alloc] at this
    rw [hW5]; exact this
  have hB : Below w.heap.size w W5 := by rw [hW5]; exact (((((Below.refl _ w).alloc (Nat.le_refl _) _).alloc (by simp) _).alloc (by simp; omega) _).alloc (by simp; omega) _).alloc (by simp; omega) _
  have sz : W5.heap.size = w.heap.size + 5 := by rw [hW5]; simp
  have gsz := Lib.hid sz
  gi_wp2_with (refine ⟨trivial, ?_⟩; gi_at_call 50; refine (callsIn_wide.2 hpt).mono ?_; rintro e W' ⟨rfl, rfl⟩)
  rw [← hW5]
  clear hW5 hpt sz
  have q3 := B3.cell 0
  have q4 := B4.cell 0
  simp only [List.getElem?_toArray, List.getElem?_cons_zero] at q3 q4
  refine wpIn_rangeFunc_ownF rfl (by omega) (gf := 75) (lb := #[.pointer (some ⟨w.heap.size + 3, 0, none⟩), .pointer (some ⟨w.heap.size + 4, 0, none⟩)]) rfl trivial (enters_of Tryd.func75 (by kernel_rfl) rfl)
    (parts_seq _ _ _ _ _ (by omega) W5 q3 q4) kpM_t (kpM_b (by rw [gsz.out]; omega) (by rw [gsz.out]; omega)) (Below.refl _ _) (fun _ => rfl)
    (fun pre W => (Hid (∀ y ∈ pre, prt m y.1 = prt k y.1) ∧ Blk W w.heap.size 27 #[.bool ag0, .slice aX0 an0 ac0, .int .i64 ae0, .bool ag1, .slice aX1 an1 ac1, .int .i64 ae1, .bool ag2, .slice aX2 an2 ac2, .int .i64 ae2, .bool ag3, .slice aX3 an3 ac3, .int .i64 ae3] ∧ Blk W (w.heap.size + 1) 27 #[.bool bg0, .slice bX0 bn0 bc0, .int .i64 be0, .bool bg1, .slice bX1 bn1 bc1, .int .i64 be1, .bool bg2, .slice bX2 bn2 bc2, .int .i64 be2, .bool bg3, .slice bX3 bn3 bc3, .int .i64 be3] ∧ Blk W (w.heap.size + 2) 4 #[.bool false] ∧ Blk W (w.heap.size + 3) 79 #[.pointer (some ⟨w.heap.size, 0, none⟩)] ∧ Blk W (w.heap.size + 4) 79 #[.pointer (some ⟨w.heap.size + 1, 0, none⟩)]) ∧ Below w.heap.size w W)
    (fun c pre W => (c = .ret ∧ Hid (m ≠ k) ∧ Blk W (w.heap.size + 2) 4 #[.bool false]) ∧ Below w.heap.size w W)
    (OwnFrom.and (Own.from (fun s A B row hs hg hr => ⟨hs.1, blk_own (β := List P4) _ _ (fun _ => _) s A B row hs.2.1 hg hr, blk_own (β := List P4) _ _ (fun _ => _) s A B row hs.2.2.1 hg hr, blk_own (β := List P4) _ _ (fun _ => _) s A B row hs.2.2.2.1 hg hr, blk_own (β := List P4) _ _ (fun _ => _) s A B row hs.2.2.2.2.1 hg hr, blk_own (β := List P4) _ _ (fun _ => _) s A B row hs.2.2.2.2.2 hg hr⟩) _) (ownFrom_below (Nat.le_refl _) (by rw [gsz.out]; omega)))
    (fun c => OwnFrom.and (Own.from (fun s A B row hs hg hr => ⟨hs.1, hs.2.1, blk_own (β := List P4) _ _ (fun _ => _) s A B row hs.2.2 hg hr⟩) _) (ownFrom_below (Nat.le_refl _) (by rw [gsz.out]; omega)))
    ⟨⟨Lib.hid (fun y hy => by cases hy), B0, B1, B2, B3, B4⟩, hB⟩
    (fun x => { tmps := #[.agg #[.bool ag0, .slice aX0 an0 ac0, .int .i64 ae0, .bool ag1, .slice aX1 an1 ac1, .int .i64 ae1, .bool ag2, .slice aX2 an2 ac2, .int .i64 ae2, .bool ag3, .slice aX3 an3 ac3, .int .i64 ae3], .agg #[.bool bg0, .slice bX0 bn0 bc0, .int .i64 be0, .bool bg1, .slice bX1 bn1 bc1, .int .i64 be1, .bool bg2, .slice bX2 bn2 bc2, .int .i64 be2, .bool bg3, .slice bX3 bn3 bc3, .int .i64 be3], .pointer (some ⟨w.heap.size, 0, none⟩), .pointer (some ⟨w.heap.size + 1, 0, none⟩), .pointer (some ⟨w.heap.size + 2, 0, none⟩), .pointer (some ⟨w.heap.size, 3 * x.1, none⟩), .pointer (some ⟨w.heap.size + 1, 3 * x.1, none⟩), .func (.func 75) #[] #[.pointer (some ⟨w.heap.size + 3, 0, none⟩), .pointer (some ⟨w.heap.size + 4, 0, none⟩)], .pointer (some ⟨w.heap.size, 3 * x.1, none⟩), .pointer (some ⟨w.heap.size + 1, 3 * x.1, none⟩), undef, undef, undef, undef, undef, undef, undef, undef], defers := [] }) ?assign ?body ?done ?stop
  case assign =>
    intro l x W K hK
    gi_wp2
    exact hK
  case body =>
    rintro l pre ⟨i, hi⟩ W ⟨⟨h1, h2, h3, h4, h5, h6⟩, hW⟩ _
    have hi4 : i = 0 ∨ i = 1 ∨ i = 2 ∨ i = 3 := by omega
    rcases hi4 with rfl | rfl | rfl | rfl
    · have x0 := h2.cell 0
      have x1 := h2.cell 1
      have x2 := h2.cell 2
      have y0 := h3.cell 0
      have y1 := h3.cell 1
      have y2 := h3.cell 2
      simp only [lgA, lgZ, lgS] at x0 x1 x2 y0 y1 y2
      obtain ⟨ea1, ea2, ea3, ea4, ra⟩ := gra.out.1
      obtain ⟨eb1, eb2, eb3, eb4, rb⟩ := grb.out.1
      obtain ⟨Q, hQ⟩ : ∃ Q, decide (prt m 0 = prt k 0) = Q := ⟨_, rfl⟩
      have hds := fun w' (h : Below w.heap.size w w') => dsame_any ag0 bg0 aX0 bX0 an0 bn0 ac0 bc0 ae0 be0 m.s.ls k.s.ls ea3 eb3 (by rw [← ea3]; exact gsm.out.1.1) (by rw [← eb3]; exact gsm.out.2.1) Q (by rw [← hQ]; simp only [prt]; rw [← ea1, ← ea2, ← eb1, ← eb2]) w' ((ra.below h).more h.size) ((rb.below h).more h.size)
      clear ea1 ea2 ea3 ea4 ra eb1 eb2 eb3 eb4 rb
      have gQ := Lib.hid hQ
      clear hQ
      have hWd : Below w.heap.size w { W with drawn := W.drawn + 1 } := ⟨hW.os, hW.tape, hW.output, hW.size, hW.block⟩
      have hd := hds _ hWd
      have f0 := h4.frozen 0
      have d0 := h4.cell 0
      simp only [List.getElem?_toArray, List.getElem?_cons_zero] at d0
      clear hds
      gi_wp2
      refine wpIn_still_round 6 (by kernel_rfl) (by kernel_rfl) (by kernel_rfl) (by rintro ⟨_, _, h⟩; exact h) ?_
      simp only [List.take_succ_cons, List.take_zero, List.drop_succ_cons, List.drop_zero]
      repeat still_step
      try refine wpStill_nil ?_
      cases Q with
      | true =>
        go_wp2_with (go_at_call 29; refine hd.mono ?_; rintro e w2 ⟨rfl, hb⟩)
        have hb2 : Below W.heap.size W w2 := ⟨hb.os, hb.tape, hb.output, hb.size, hb.block⟩
        have hg : W.grownBy w2 none := ⟨hb2.os, hb2.tape, hb2.output, hb2.size, fun k hk _ => hb2.block k hk⟩
        clear d0 f0 hd hb
        gi_wp2
        exact ⟨KeepsOthers.of_grownBy hg (fun j o e ho => by cases e), ⟨hb2.cell (p := ⟨w.heap.size + 3, 0, none⟩) h5.lt, hb2.cell (p := ⟨w.heap.size + 4, 0, none⟩) h6.lt⟩, ⟨Lib.hid (fun y hy => (List.mem_append.1 hy).elim (h1.out y) (fun h => by rw [List.mem_singleton.1 h]; exact of_decide_eq_true gQ.out)), h2.below hb2 h2.lt, h3.below hb2 h3.lt, h4.below hb2 h4.lt, h5.below hb2 h5.lt, h6.below hb2 h6.lt⟩, hW.trans (hb2.mono hW.size)⟩
      | false =>
        go_wp2_with (go_at_call 29; refine hd.mono ?_; rintro e w2 ⟨rfl, hb⟩)
        have hb2 : Below W.heap.size W w2 := ⟨hb.os, hb.tape, hb.output, hb.size, hb.block⟩
        have hg : W.grownBy w2 none := ⟨hb2.os, hb2.tape, hb2.output, hb2.size, fun k hk _ => hb2.block k hk⟩
        clear d0 f0 hd hb
        have h7 := h4.below hb2 h4.lt
        have d0 := h7.cell 0
        have f0 := h7.frozen 0
        simp only [List.getElem?_toArray, List.getElem?_cons_zero] at d0
        have h8 := h7.set_ 0 (.bool false)
        simp at h8
        gi_wp2
        exact ⟨(KeepsOthers.of_grownBy hg (fun j o e ho => by cases e)).trans (KeepsOthers.setCell w2 ⟨w.heap.size + 2, 0, none⟩ _), ⟨rfl, Lib.hid (fun e => by have := gQ.out; rw [e] at this; simp at this), h8⟩, (hW.trans (hb2.mono hW.size)).setCell (p := ⟨w.heap.size + 2, 0, none⟩) (by simp) _⟩
    · have x0 := h2.cell 3
      have x1 := h2.cell 4
      have x2 := h2.cell 5
      have y0 := h3.cell 3
      have y1 := h3.cell 4
      have y2 := h3.cell 5
      simp only [lgA, lgZ, lgS] at x0 x1 x2 y0 y1 y2
      obtain ⟨ea1, ea2, ea3, ea4, ra⟩ := gra.out.2.1
      obtain ⟨eb1, eb2, eb3, eb4, rb⟩ := grb.out.2.1
      obtain ⟨Q, hQ⟩ : ∃ Q, decide (prt m 1 = prt k 1) = Q := ⟨_, rfl⟩
      have hds := fun w' (h : Below w.heap.size w w') => dsame_any ag1 bg1 aX1 bX1 an1 bn1 ac1 bc1 ae1 be1 m.w.ls k.w.ls ea3 eb3 (by rw [← ea3]; exact gsm.out.1.2.1) (by rw [← eb3]; exact gsm.out.2.2.1) Q (by rw [← hQ]; simp only [prt]; rw [← ea1, ← ea2, ← eb1, ← eb2]) w' ((ra.below h).more h.size) ((rb.below h).more h.size)
      clear ea1 ea2 ea3 ea4 ra eb1 eb2 eb3 eb4 rb
      have gQ := Lib.hid hQ
      clear hQ
      have hWd : Below w.heap.size w { W with drawn := W.drawn + 1 } := ⟨hW.os, hW.tape, hW.output, hW.size, hW.block⟩
      have hd := hds _ hWd
      have f0 := h4.frozen 0
      have d0 := h4.cell 0
      simp only [List.getElem?_toArray, List.getElem?_cons_zero] at d0
      clear hds
      gi_wp2
      refine wpIn_still_round 6 (by kernel_rfl) (by kernel_rfl) (by kernel_rfl) (by rintro ⟨_, _, h⟩; exact h) ?_
      simp only [List.take_succ_cons, List.take_zero, List.drop_succ_cons, List.drop_zero]
      repeat still_step
      try refine wpStill_nil ?_
      cases Q with
      | true =>
        go_wp2_with (go_at_call 29; refine hd.mono ?_; rintro e w2 ⟨rfl, hb⟩)
        have hb2 : Below W.heap.size W w2 := ⟨hb.os, hb.tape, hb.output, hb.size, hb.block⟩
        have hg : W.grownBy w2 none := ⟨hb2.os, hb2.tape, hb2.output, hb2.size, fun k hk _ => hb2.block k hk⟩
        clear d0 f0 hd hb
        gi_wp2
        exact ⟨KeepsOthers.of_grownBy hg (fun j o e ho => by cases e), ⟨hb2.cell (p := ⟨w.heap.size + 3, 0, none⟩) h5.lt, hb2.cell (p := ⟨w.heap.size + 4, 0, none⟩) h6.lt⟩, ⟨Lib.hid (fun y hy => (List.mem_append.1 hy).elim (h1.out y) (fun h => by rw [List.mem_singleton.1 h]; exact of_decide_eq_true gQ.out)), h2.below hb2 h2.lt, h3.below hb2 h3.lt, h4.below hb2 h4.lt, h5.below hb2 h5.lt, h6.below hb2 h6.lt⟩, hW.trans (hb2.mono hW.size)⟩
      | false =>
        go_wp2_with (go_at_call 29; refine hd.mono ?_; rintro e w2 ⟨rfl, hb⟩)
        have hb2 : Below W.heap.size W w2 := ⟨hb.os, hb.tape, hb.output, hb.size, hb.block⟩
        have hg : W.grownBy w2 none := ⟨hb2.os, hb2.tape, hb2.output, hb2.size, fun k hk _ => hb2.block k hk⟩
        clear d0 f0 hd hb
        have h7 := h4.below hb2 h4.lt
        have d0 := h7.cell 0
        have f0 := h7.frozen 0
        simp only [List.getElem?_toArray, List.getElem?_cons_zero] at d0
        have h8 := h7.set_ 0 (.bool false)
        simp at h8
        gi_wp2
        exact ⟨(KeepsOthers.of_grownBy hg (fun j o e ho => by cases e)).trans (KeepsOthers.setCell w2 ⟨w.heap.size + 2, 0, none⟩ _), ⟨rfl, Lib.hid (fun e => by have := gQ.out; rw [e] at this; simp at this), h8⟩, (hW.trans (hb2.mono hW.size)).setCell (p := ⟨w.heap.size + 2, 0, none⟩) (by simp) _⟩
    · have x0 := h2.cell 6
      have x1 := h2.cell 7
      have x2 := h2.cell 8
      have y0 := h3.cell 6
      have y1 := h3.cell 7
      have y2 := h3.cell 8
      simp only [lgA, lgZ, lgS] at x0 x1 x2 y0 y1 y2
      obtain ⟨ea1, ea2, ea3, ea4, ra⟩ := gra.out.2.2.1
      obtain ⟨eb1, eb2, eb3, eb4, rb⟩ := grb.out.2.2.1
      obtain ⟨Q, hQ⟩ : ∃ Q, decide (prt m 2 = prt k 2) = Q := ⟨_, rfl⟩
      have hds := fun w' (h : Below w.heap.size w w') => dsame_any ag2 bg2 aX2 bX2 an2 bn2 ac2 bc2 ae2 be2 m.c.ls k.c.ls ea3 eb3 (by rw [← ea3]; exact gsm.out.1.2.2.1) (by rw [← eb3]; exact gsm.out.2.2.2.1) Q (by rw [← hQ]; simp only [prt]; rw [← ea1, ← ea2, ← eb1, ← eb2]) w' ((ra.below h).more h.size) ((rb.below h).more h.size)
      clear ea1 ea2 ea3 ea4 ra eb1 eb2 eb3 eb4 rb
      have gQ := Lib.hid hQ
      clear hQ
      have hWd : Below w.heap.size w { W with drawn := W.drawn + 1 } := ⟨hW.os, hW.tape, hW.output, hW.size, hW.block⟩
      have hd := hds _ hWd
      have f0 := h4.frozen 0
      have d0 := h4.cell 0
      simp only [List.getElem?_toArray, List.getElem?_cons_zero] at d0
      clear hds
      gi_wp2
      refine wpIn_still_round 6 (by kernel_rfl) (by kernel_rfl) (by kernel_rfl) (by rintro ⟨_, _, h⟩; exact h) ?_
      simp only [List.take_succ_cons, List.take_zero, List.drop_succ_cons, List.drop_zero]
      repeat still_step
      try refine wpStill_nil ?_
      cases Q with
      | true =>
        go_wp2_with (go_at_call 29; refine hd.mono ?_; rintro e w2 ⟨rfl, hb⟩)
        have hb2 : Below W.heap.size W w2 := ⟨hb.os, hb.tape, hb.output, hb.size, hb.block⟩
        have hg : W.grownBy w2 none := ⟨hb2.os, hb2.tape, hb2.output, hb2.size, fun k hk _ => hb2.block k hk⟩
        clear d0 f0 hd hb
        gi_wp2
        exact ⟨KeepsOthers.of_grownBy hg (fun j o e ho => by cases e), ⟨hb2.cell (p := ⟨w.heap.size + 3, 0, none⟩) h5.lt, hb2.cell (p := ⟨w.heap.size + 4, 0, none⟩) h6.lt⟩, ⟨Lib.hid (fun y hy => (List.mem_append.1 hy).elim (h1.out y) (fun h => by rw [List.mem_singleton.1 h]; exact of_decide_eq_true gQ.out)), h2.below hb2 h2.lt, h3.below hb2 h3.lt, h4.below hb2 h4.lt, h5.below hb2 h5.lt, h6.below hb2 h6.lt⟩, hW.trans (hb2.mono hW.size)⟩
      | false =>
        go_wp2_with (go_at_call 29; refine hd.mono ?_; rintro e w2 ⟨rfl, hb⟩)
        have hb2 : Below W.heap.size W w2 := ⟨hb.os, hb.tape, hb.output, hb.size, hb.block⟩
        have hg : W.grownBy w2 none := ⟨hb2.os, hb2.tape, hb2.output, hb2.size, fun k hk _ => hb2.block k hk⟩
        clear d0 f0 hd hb
        have h7 := h4.below hb2 h4.lt
        have d0 := h7.cell 0
        have f0 := h7.frozen 0
        simp only [List.getElem?_toArray, List.getElem?_cons_zero] at d0
        have h8 := h7.set_ 0 (.bool false)
        simp at h8
        gi_wp2
        exact ⟨(KeepsOthers.of_grownBy hg (fun j o e ho => by cases e)).trans (KeepsOthers.setCell w2 ⟨w.heap.size + 2, 0, none⟩ _), ⟨rfl, Lib.hid (fun e => by have := gQ.out; rw [e] at this; simp at this), h8⟩, (hW.trans (hb2.mono hW.size)).setCell (p := ⟨w.heap.size + 2, 0, none⟩) (by simp) _⟩
    · have x0 := h2.cell 9
      have x1 := h2.cell 10
      have x2 := h2.cell 11
      have y0 := h3.cell 9
      have y1 := h3.cell 10
      have y2 := h3.cell 11
      simp only [lgA, lgZ, lgS] at x0 x1 x2 y0 y1 y2
      obtain ⟨ea1, ea2, ea3, ea4, ra⟩ := gra.out.2.2.2
      obtain ⟨eb1, eb2, eb3, eb4, rb⟩ := grb.out.2.2.2
      obtain ⟨Q, hQ⟩ : ∃ Q, decide (prt m 3 = prt k 3) = Q := ⟨_, rfl⟩
      have hds := fun w' (h : Below w.heap.size w w') => dsame_any ag3 bg3 aX3 bX3 an3 bn3 ac3 bc3 ae3 be3 m.a.ls k.a.ls ea3 eb3 (by rw [← ea3]; exact gsm.out.1.2.2.2) (by rw [← eb3]; exact gsm.out.2.2.2.2) Q (by rw [← hQ]; simp only [prt]; rw [← ea1, ← ea2, ← eb1, ← eb2]) w' ((ra.below h).more h.size) ((rb.below h).more h.size)
      clear ea1 ea2 ea3 ea4 ra eb1 eb2 eb3 eb4 rb
      have gQ := Lib.hid hQ
      clear hQ
      have hWd : Below w.heap.size w { W with drawn := W.drawn + 1 } := ⟨hW.os, hW.tape, hW.output, hW.size, hW.block⟩
      have hd := hds _ hWd
      have f0 := h4.frozen 0
      have d0 := h4.cell 0
      simp only [List.getElem?_toArray, List.getElem?_cons_zero] at d0
      clear hds
      gi_wp2
      refine wpIn_still_round 6 (by kernel_rfl) (by kernel_rfl) (by kernel_rfl) (by rintro ⟨_, _, h⟩; exact h) ?_
      simp only [List.take_succ_cons, List.take_zero, List.drop_succ_cons, List.drop_zero]
      repeat still_step
      try refine wpStill_nil ?_
      cases Q with
      | true =>
        go_wp2_with (go_at_call 29; refine hd.mono ?_; rintro e w2 ⟨rfl, hb⟩)
        have hb2 : Below W.heap.size W w2 := ⟨hb.os, hb.tape, hb.output, hb.size, hb.block⟩
        have hg : W.grownBy w2 none := ⟨hb2.os, hb2.tape, hb2.output, hb2.size, fun k hk _ => hb2.block k hk⟩
        clear d0 f0 hd hb
        gi_wp2
        exact ⟨KeepsOthers.of_grownBy hg (fun j o e ho => by cases e), ⟨hb2.cell (p := ⟨w.heap.size + 3, 0, none⟩) h5.lt, hb2.cell (p := ⟨w.heap.size + 4, 0, none⟩) h6.lt⟩, ⟨Lib.hid (fun y hy => (List.mem_append.1 hy).elim (h1.out y) (fun h => by rw [List.mem_singleton.1 h]; exact of_decide_eq_true gQ.out)), h2.below hb2 h2.lt, h3.below hb2 h3.lt, h4.below hb2 h4.lt, h5.below hb2 h5.lt, h6.below hb2 h6.lt⟩, hW.trans (hb2.mono hW.size)⟩
      | false =>
        go_wp2_with (go_at_call 29; refine hd.mono ?_; rintro e w2 ⟨rfl, hb⟩)
        have hb2 : Below W.heap.size W w2 := ⟨hb.os, hb.tape, hb.output, hb.size, hb.block⟩
        have hg : W.grownBy w2 none := ⟨hb2.os, hb2.tape, hb2.output, hb2.size, fun k hk _ => hb2.block k hk⟩
        clear d0 f0 hd hb
        have h7 := h4.below hb2 h4.lt
        have d0 := h7.cell 0
        have f0 := h7.frozen 0
        simp only [List.getElem?_toArray, List.getElem?_cons_zero] at d0
        have h8 := h7.set_ 0 (.bool false)
        simp at h8
        gi_wp2
        exact ⟨(KeepsOthers.of_grownBy hg (fun j o e ho => by cases e)).trans (KeepsOthers.setCell w2 ⟨w.heap.size + 2, 0, none⟩ _), ⟨rfl, Lib.hid (fun e => by have := gQ.out; rw [e] at this; simp at this), h8⟩, (hW.trans (hb2.mono hW.size)).setCell (p := ⟨w.heap.size + 2, 0, none⟩) (by simp) _⟩
  case done =>
    rintro D ys W hD rfl ⟨⟨h1, h2, h3, h4, _, _⟩, hW⟩ hK
    have hmk : m = k := ms_eq (fun i hi => by
      have h := h1.out
      match i, hi with
      | 0, _ => exact h p0 (by simp)
      | 1, _ => exact h p1 (by simp)
      | 2, _ => exact h p2 (by simp)
      | 3, _ => exact h p3 (by simp))
    obtain rfl : true = R := by rw [← gR.out]; simp [hmk]
    clear hmk gR
    have d0 := h4.cell 0
    have f0 := h4.frozen 0
    simp only [List.getElem?_toArray, List.getElem?_cons_zero] at d0
    have hD' : w.heap.size + 5 ≤ D := by rw [gsz.out] at hD; exact hD
    have hDl : D < W.heap.size := (Array.getElem?_eq_some_iff.1 hK).1
    have hK2 := (KeepsOthers.setCell W ⟨w.heap.size + 2, 0, none⟩ (.bool true)).same D _ hK rfl
    have B5 := h4.set_ 0 (.bool true)
    have B6 := B5.grown (grownBy_putObj' _ D (.deferred none)) (by simp; omega)
    have q0 := B6.cell 0
    simp at q0
    clear B5 B6 h1 h2 h3 h4
    gi_wp2
    refine ⟨by simp, .inl ⟨_, _, rfl, run_takeDeferred hK2, ?_⟩⟩
    refine ⟨.bool true, ?_, rfl, (hW.setCell (p := ⟨w.heap.size + 2, 0, none⟩) (by simp) _).trans (belowK_b (w := w) (Nat.le_refl _) _ D _ _ (by omega) hK2 rfl rfl)⟩
    simp [results, Tryd.f24, go_sem, q0]
  case stop =>
    rintro D c pre W hD _ ⟨⟨rfl, h1, h2⟩, hW⟩ hK
    obtain rfl : false = R := by rw [← gR.out]; exact (decide_eq_false h1.out).symm
    clear gR
    have hDl : D < W.heap.size := (Array.getElem?_eq_some_iff.1 hK).1
    have hD' : w.heap.size + 5 ≤ D := by rw [gsz.out] at hD; exact hD
    have B6 := h2.grown (grownBy_putObj' _ D (.deferred none)) (by simp; omega)
    have q0 := B6.cell 0
    simp at q0
    clear B6 h1 h2
    gi_wp2
    refine ⟨by simp, .inl ⟨_, _, rfl, run_takeDeferred hK, ?_⟩⟩
    refine ⟨.bool false, ?_, rfl, hW.trans (belowK_b (w := w) (Nat.le_refl _) _ D _ _ (by omega) hK rfl rfl)⟩
    simp [results, Tryd.f24, go_sem, q0]
end Go.Proofs.YtdmjdpaehnhdoaaDoor
namespace Go.Proofs.YtdmjdpaehnhdoaaDoor
open Go.Shelf Go.ChangeShapes Go.WideShapes Go.ChangeAt Go.RowKit
set_option linter.unusedSimpArgs false
set_option linter.unusedVariables false
/-- A part under way: its own copy, or the first one still. -/
def StT (W : World) (B n : Nat) (l : List Nat) (X0 : Option Addr) (c0 : Nat) (out : Prop) (X : Option Addr) (c : Nat) : Prop := n ≤ c ∧ (OwnR W B 71 X n (ints .u32 l) ∨ (out ∧ X = X0 ∧ c = c0))
section
variable {W W' : World} {B n c c0 : Nat} {l : List Nat} {X0 X : Option Addr} {out out' : Prop}
theorem StT.map (h : StT W B n l X0 c0 out X c) (h1 : OwnR W B 71 X n (ints .u32 l) → OwnR W' B 71 X n (ints .u32 l)) (h2 : out → out') : StT W' B n l X0 c0 out' X c := ⟨h.1, h.2.imp h1 (fun ⟨a, b⟩ => ⟨h2 a, b⟩)⟩
theorem ownR_own {xs : List Value} {e : TypeId} {row : Option Nat} (h : OwnR W B e X n xs) (hg : W.grownBy W' row) (hr : ∀ r, row = some r → ∃ o : Obj, W.heap[r]? = some o ∧ o.isCells = false) : OwnR W' B e X n xs :=
  ⟨h.1, fun h0 => by
    obtain ⟨g, cur, hA, hb, hh, ht⟩ := h.2 h0
    refine ⟨g, cur, hA, hb, hh.grown hg (fun e => ?_), ht⟩
    obtain ⟨o, ho, hc⟩ := hr g e.symm
    unfold Blk at hh
    rw [hh] at ho
    injection ho with ho
    subst ho
    cases hc⟩
theorem StT.own (h : StT W B n l X0 c0 out X c) {row : Option Nat} (hg : W.grownBy W' row) (hr : ∀ r, row = some r → ∃ o : Obj, W.heap[r]? = some o ∧ o.isCells = false) : StT W' B n l X0 c0 out X c := h.map (fun h => ownR_own h hg hr) id
theorem StT.reads {w : World} {c0' : Nat} (h : StT W B n l X0 c0 out X c) (hr : Reads w w.heap.size 1 X0 n (ints .u32 l)) (hb : Below w.heap.size w W) : Reads W W.heap.size 1 X n (ints .u32 l) := by
  rcases h.2 with h | ⟨_, rfl, _⟩
  · exact h.reads
  · exact (hr.below hb).more hb.size
end
def TwM (w : World) (ag0 : Bool) (aX0 : Option Addr) (an0 ac0 : Nat) (ae0 : Int) (ag1 : Bool) (aX1 : Option Addr) (an1 ac1 : Nat) (ae1 : Int) (ag2 : Bool) (aX2 : Option Addr) (an2 ac2 : Nat) (ae2 : Int) (ag3 : Bool) (aX3 : Option Addr) (an3 ac3 : Nat) (ae3 : Int) (m : Ms) (en : Ending) (w' : World) : Prop :=
  ∃ (X0 : Option Addr) (c0 : Nat) (X1 : Option Addr) (c1 : Nat) (X2 : Option Addr) (c2 : Nat) (X3 : Option Addr) (c3 : Nat), en = .returned (.agg #[.bool ag0, .slice X0 an0 c0, .int .i64 ae0, .bool ag1, .slice X1 an1 c1, .int .i64 ae1, .bool ag2, .slice X2 an2 c2, .int .i64 ae2, .bool ag3, .slice X3 an3 c3, .int .i64 ae3]) ∧ (an0 ≤ c0 ∧ OwnR w' w.heap.size 71 X0 an0 (ints .u32 m.s.ls)) ∧ (an1 ≤ c1 ∧ OwnR w' w.heap.size 71 X1 an1 (ints .u32 m.w.ls)) ∧ (an2 ≤ c2 ∧ OwnR w' w.heap.size 71 X2 an2 (ints .u32 m.c.ls)) ∧ (an3 ≤ c3 ∧ OwnR w' w.heap.size 71 X3 an3 (ints .u32 m.a.ls)) ∧ Below w.heap.size w w'
theorem blk12 {w : World} {g : Nat} {T : TypeId} {z0 z1 z2 z3 z4 z5 z6 z7 z8 z9 z10 z11 : Value} (h : Blk w g T #[z0, z1, z2, z3, z4, z5, z6, z7, z8, z9, z10, z11]) (u0 u1 u2 u3 u4 u5 u6 u7 u8 u9 u10 u11 : Value) : Blk ((((((((((((w.setCell ⟨g, 0, none⟩ u0).setCell ⟨g, 1, none⟩ u1).setCell ⟨g, 2, none⟩ u2).setCell ⟨g, 3, none⟩ u3).setCell ⟨g, 4, none⟩ u4).setCell ⟨g, 5, none⟩ u5).setCell ⟨g, 6, none⟩ u6).setCell ⟨g, 7, none⟩ u7).setCell ⟨g, 8, none⟩ u8).setCell ⟨g, 9, none⟩ u9).setCell ⟨g, 10, none⟩ u10).setCell ⟨g, 11, none⟩ u11) g T #[u0, u1, u2, u3, u4, u5, u6, u7, u8, u9, u10, u11] := by
  have h1 : Blk _ g T #[u0, z1, z2, z3, z4, z5, z6, z7, z8, z9, z10, z11] := (show _ from by simpa using h.set_ 0 u0)
  have h2 : Blk _ g T #[u0, u1, z2, z3, z4, z5, z6, z7, z8, z9, z10, z11] := (show _ from by simpa using h1.set_ 1 u1)
  have h3 : Blk _ g T #[u0, u1, u2, z3, z4, z5, z6, z7, z8, z9, z10, z11] := (show _ from by simpa using h2.set_ 2 u2)
  have h4 : Blk _ g T #[u0, u1, u2, u3, z4, z5, z6, z7, z8, z9, z10, z11] := (show _ from by simpa using h3.set_ 3 u3)
  have h5 : Blk _ g T #[u0, u1, u2, u3, u4, z5, z6, z7, z8, z9, z10, z11] := (show _ from by simpa using h4.set_ 4 u4)
  have h6 : Blk _ g T #[u0, u1, u2, u3, u4, u5, z6, z7, z8, z9, z10, z11] := (show _ from by simpa using h5.set_ 5 u5)
  have h7 : Blk _ g T #[u0, u1, u2, u3, u4, u5, u6, z7, z8, z9, z10, z11] := (show _ from by simpa using h6.set_ 6 u6)
  have h8 : Blk _ g T #[u0, u1, u2, u3, u4, u5, u6, u7, z8, z9, z10, z11] := (show _ from by simpa using h7.set_ 7 u7)
  have h9 : Blk _ g T #[u0, u1, u2, u3, u4, u5, u6, u7, u8, z9, z10, z11] := (show _ from by simpa using h8.set_ 8 u8)
  have h10 : Blk _ g T #[u0, u1, u2, u3, u4, u5, u6, u7, u8, u9, z10, z11] := (show _ from by simpa using h9.set_ 9 u9)
  have h11 : Blk _ g T #[u0, u1, u2, u3, u4, u5, u6, u7, u8, u9, u10, z11] := (show _ from by simpa using h10.set_ 10 u10)
  have h12 : Blk _ g T #[u0, u1, u2, u3, u4, u5, u6, u7, u8, u9, u10, u11] := (show _ from by simpa using h11.set_ 11 u11)
  exact h12
theorem blk3 {w : World} {g i : Nat} {T : TypeId} {cs ds : Array Value} (h : Blk w g T cs) (u0 u1 u2 : Value) (hd : ((cs.setIfInBounds i u0).setIfInBounds (i + 1) u1).setIfInBounds (i + 2) u2 = ds) : Blk (((w.setCell ⟨g, i, none⟩ u0).setCell ⟨g, i + 1, none⟩ u1).setCell ⟨g, i + 2, none⟩ u2) g T ds := by
  rw [← hd]
  exact ((h.set_ i u0).set_ (i + 1) u1).set_ (i + 2) u2
attribute [local go_sem] Oper.semAt_some
set_option maxRecDepth 100000 in
set_option maxHeartbeats 8000000 in
theorem mtwin_any (ag0 : Bool) (aX0 : Option Addr) (an0 ac0 : Nat) (ae0 : Int) (ag1 : Bool) (aX1 : Option Addr) (an1 ac1 : Nat) (ae1 : Int) (ag2 : Bool) (aX2 : Option Addr) (an2 ac2 : Nat) (ae2 : Int) (ag3 : Bool) (aX3 : Option Addr) (an3 ac3 : Nat) (ae3 : Int) (m : Ms) (hsm : smM m) (w : World) (ra : RdM w w.heap.size ag0 aX0 an0 ac0 ae0 ag1 aX1 an1 ac1 ae1 ag2 aX2 an2 ac2 ae2 ag3 aX3 an3 ac3 ae3 m) :
    Calls Tryd.prog 36 #[.agg #[.bool ag0, .slice aX0 an0 ac0, .int .i64 ae0, .bool ag1, .slice aX1 an1 ac1, .int .i64 ae1, .bool ag2, .slice aX2 an2 ac2, .int .i64 ae2, .bool ag3, .slice aX3 an3 ac3, .int .i64 ae3]] w (TwM w ag0 aX0 an0 ac0 ae0 ag1 aX1 an1 ac1 ae1 ag2 aX2 an2 ac2 ae2 ag3 aX3 an3 ac3 ae3 m) := by
  refine (callsIn_wide (n := 6)).1 ?_
  refine callsIn_of_wp_marks Tryd.func36 rfl trivial ?_ rfl
  simp only [Tryd.ntmps36, List.size_toArray, List.length_cons, List.length_nil, Nat.reduceAdd, Nat.reduceSub, Array.replicate_succ, Array.replicate_zero, List.push_toArray, List.append_toArray, List.nil_append, List.cons_append]
  have gra := Lib.hid ra
  have gsm := Lib.hid hsm
  have gc : an0 ≤ ac0 ∧ an1 ≤ ac1 ∧ an2 ≤ ac2 ∧ an3 ≤ ac3 := ⟨ra.1.2.2.2.1, ra.2.1.2.2.2.1, ra.2.2.1.2.2.2.1, ra.2.2.2.2.2.2.1⟩
  clear ra hsm
  have hpt := parts_any ⟨w.heap.size, 0, none⟩ ⟨w.heap.size, 0, none⟩ ((w.alloc (.cells #[.bool ag0, .slice aX0 an0 ac0, .int .i64 ae0, .bool ag1, .slice aX1 an1 ac1, .int .i64 ae1, .bool ag2, .slice aX2 an2 ac2, .int .i64 ae2, .bool ag3, .slice aX3 an3 ac3, .int .i64 ae3] 27)).alloc (.cells #[.bool false, .slice none 0 0, .int .i64 0, .bool false, .slice none 0 0, .int .i64 0, .bool false, .slice none 0 0, .int .i64 0, .bool false, .slice none 0 0, .int .i64 0] 27))
  simp only [World.size_alloc] at hpt
  obtain ⟨W5, hW5⟩ : ∃ W5, W5 = ((((w.alloc (.cells #[.bool ag0, .slice aX0 an0 ac0, .int .i64 ae0, .bool ag1, .slice aX1 an1 ac1, .int .i64 ae1, .bool ag2, .slice aX2 an2 ac2, .int .i64 ae2, .bool ag3, .slice aX3 an3 ac3, .int .i64 ae3] 27)).alloc (.cells #[.bool false, .slice none 0 0, .int .i64 0, .bool false, .slice none 0 0, .int .i64 0, .bool false, .slice none 0 0, .int .i64 0, .bool false, .slice none 0 0, .int .i64 0] 27)).alloc (.cells #[.pointer (some ⟨w.heap.size, 0, none⟩)] 79)).alloc (.cells #[.pointer (some ⟨w.heap.size, 0, none⟩)] 79)) := ⟨_, rfl⟩
  have B0 : Blk W5 w.heap.size 27 #[.bool ag0, .slice aX0 an0 ac0, .int .i64 ae0, .bool ag1, .slice aX1 an1 ac1, .int .i64 ae1, .bool ag2, .slice aX2 an2 ac2, .int .i64 ae2, .bool ag3, .slice aX3 an3 ac3, .int .i64 ae3] := by rw [hW5]; exact (((Blk.new w _ _).alloc _).alloc _).alloc _
  have B1 : Blk W5 (w.heap.size + 1) 27 #[.bool false, .slice none 0 0, .int .i64 0, .bool false, .slice none 0 0, .int .i64 0, .bool false, .slice none 0 0, .int .i64 0, .bool false, .slice none 0 0, .int .i64 0] := by
    have := ((Blk.new (w.alloc (.cells #[.bool ag0, .slice aX0 an0 ac0, .int .i64 ae0, .bool ag1, .slice aX1 an1 ac1, .int .i64 ae1, .bool ag2, .slice aX2 an2 ac2, .int .i64 ae2, .bool ag3, .slice aX3 an3 ac3, .int .i64 ae3] 27)) 27 #[.bool false, .slice none 0 0, .int .i64 0, .bool false, .slice none 0 0, .int .i64 0, .bool false, .slice none 0 0, .int .i64 0, .bool false, .slice none 0 0, .int .i64 0]).alloc (.cells #[.pointer (some ⟨w.heap.size, 0, none⟩)] 79)).alloc (.cells #[.pointer (some ⟨w.heap.size, 0, none⟩)] 79)
    rw [World.size_alloc] at this
    rw [hW5]; exact this
  have B3 : Blk W5 (w.heap.size + 2) 79 #[.pointer (some ⟨w.heap.size, 0, none⟩)] := by
    have := (Blk.new ((w.alloc (.cells #[.bool ag0, .slice aX0 an0 ac0, .int .i64 ae0, .bool ag1, .slice aX1 an1 ac1, .int .i64 ae1, .bool ag2, .slice aX2 an2 ac2, .int .i64 ae2, .bool ag3, .slice aX3 an3 ac3, .int .i64 ae3] 27)).alloc (.cells #[.bool false, .slice none 0 0, .int .i64 0, .bool false, .slice none 0 0, .int .i64 0, .bool false, .slice none 0 0, .int .i64 0, .bool false, .slice none 0 0, .int .i64 0] 27)) 79 #[.pointer (some ⟨w.heap.size, 0, none⟩)]).alloc (.cells #[.pointer (some ⟨w.heap.size, 0, none⟩)] 79)
    simp only [World.size_alloc] at this
    rw [hW5]; exact this
  have B4 : Blk W5 (w.heap.size + 3) 79 #[.pointer (some ⟨w.heap.size, 0, none⟩)] := by
    have := Blk.new (((w.alloc (.cells #[.bool ag0, .slice aX0 an0 ac0, .int .i64 ae0, .bool ag1, .slice aX1 an1 ac1, .int .i64 ae1, .bool ag2, .slice aX2 an2 ac2, .int .i64 ae2, .bool ag3, .slice aX3 an3 ac3, .int .i64 ae3] 27)).alloc (.cells #[.bool false, .slice none 0 0, .int .i64 0, .bool false, .slice none 0 0, .int .i64 0, .bool false, .slice none 0 0, .int .i64 0, .bool false, .slice none 0 0, .int .i64 0] 27)).alloc (.cells #[.pointer (some ⟨w.heap.size, 0, none⟩)] 79)) 79 #[.pointer (some ⟨w.heap.size, 0, none⟩)]
    simp only [World.size_alloc] at this
    rw [hW5]; exact this
  have hB : Below w.heap.size w W5 := by rw [hW5]; exact ((((Below.refl _ w).alloc (Nat.le_refl _) _).alloc (by simp) _).alloc (by simp; omega) _).alloc (by simp; omega) _
  have sz : W5.heap.size = w.heap.size + 4 := by rw [hW5]; simp
  have gsz := Lib.hid sz
  gi_wp2_with (refine ⟨trivial, ?_⟩; gi_at_call 50; refine (callsIn_wide.2 hpt).mono ?_; rintro e W' ⟨rfl, rfl⟩)
  rw [← hW5]
  clear hW5 hpt sz
  have q3 := B3.cell 0
  have q4 := B4.cell 0
  simp only [List.getElem?_toArray, List.getElem?_cons_zero] at q3 q4
  refine wpIn_rangeFunc_ownF rfl (by omega) (gf := 75) (lb := #[.pointer (some ⟨w.heap.size + 2, 0, none⟩), .pointer (some ⟨w.heap.size + 3, 0, none⟩)]) rfl trivial (enters_of Tryd.func75 (by kernel_rfl) rfl)
    (parts_seq _ _ _ _ _ (by omega) W5 q3 q4) kpM_t (kpM_b (by rw [gsz.out]; omega) (by rw [gsz.out]; omega)) (Below.refl _ _) (fun _ => rfl)
    (fun pre W => ((∃ (X0 : Option Addr) (c0 : Nat) (X1 : Option Addr) (c1 : Nat) (X2 : Option Addr) (c2 : Nat) (X3 : Option Addr) (c3 : Nat), Blk W w.heap.size 27 #[.bool ag0, .slice X0 an0 c0, .int .i64 ae0, .bool ag1, .slice X1 an1 c1, .int .i64 ae1, .bool ag2, .slice X2 an2 c2, .int .i64 ae2, .bool ag3, .slice X3 an3 c3, .int .i64 ae3] ∧ StT W (w.heap.size + 4) an0 m.s.ls aX0 ac0 (p0 ∉ pre) X0 c0 ∧ StT W (w.heap.size + 4) an1 m.w.ls aX1 ac1 (p1 ∉ pre) X1 c1 ∧ StT W (w.heap.size + 4) an2 m.c.ls aX2 ac2 (p2 ∉ pre) X2 c2 ∧ StT W (w.heap.size + 4) an3 m.a.ls aX3 ac3 (p3 ∉ pre) X3 c3) ∧ Blk W (w.heap.size + 1) 27 #[.bool false, .slice none 0 0, .int .i64 0, .bool false, .slice none 0 0, .int .i64 0, .bool false, .slice none 0 0, .int .i64 0, .bool false, .slice none 0 0, .int .i64 0] ∧ Blk W (w.heap.size + 2) 79 #[.pointer (some ⟨w.heap.size, 0, none⟩)] ∧ Blk W (w.heap.size + 3) 79 #[.pointer (some ⟨w.heap.size, 0, none⟩)]) ∧ Below w.heap.size w W)
    (fun _ _ _ => False)
    (OwnFrom.and (Own.from (fun s A B row hs hg hr => by
      obtain ⟨⟨X0, c0, X1, c1, X2, c2, X3, c3, hv, s0, s1, s2, s3⟩, h1, h2, h3⟩ := hs
      exact ⟨⟨X0, c0, X1, c1, X2, c2, X3, c3, blk_own (β := Nat) _ _ (fun _ => _) 0 A B row hv hg hr, s0.own hg hr, s1.own hg hr, s2.own hg hr, s3.own hg hr⟩, blk_own (β := Nat) _ _ (fun _ => _) 0 A B row h1 hg hr, blk_own (β := Nat) _ _ (fun _ => _) 0 A B row h2 hg hr, blk_own (β := Nat) _ _ (fun _ => _) 0 A B row h3 hg hr⟩) _) (ownFrom_below (Nat.le_refl _) (by rw [gsz.out]; omega)))
    (fun _ _ _ _ _ hs _ _ => hs)
    ⟨⟨⟨aX0, ac0, aX1, ac1, aX2, ac2, aX3, ac3, B0, ⟨gc.1, .inr ⟨by simp, rfl, rfl⟩⟩, ⟨gc.2.1, .inr ⟨by simp, rfl, rfl⟩⟩, ⟨gc.2.2.1, .inr ⟨by simp, rfl, rfl⟩⟩, ⟨gc.2.2.2, .inr ⟨by simp, rfl, rfl⟩⟩⟩, B1, B3, B4⟩, hB⟩
    (fun x => { tmps := #[.agg #[.bool ag0, .slice aX0 an0 ac0, .int .i64 ae0, .bool ag1, .slice aX1 an1 ac1, .int .i64 ae1, .bool ag2, .slice aX2 an2 ac2, .int .i64 ae2, .bool ag3, .slice aX3 an3 ac3, .int .i64 ae3], .pointer (some ⟨w.heap.size, 0, none⟩), .pointer (some ⟨w.heap.size + 1, 0, none⟩), .pointer (some ⟨w.heap.size, 3 * x.1, none⟩), .func (.func 75) #[] #[.pointer (some ⟨w.heap.size + 2, 0, none⟩), .pointer (some ⟨w.heap.size + 3, 0, none⟩)], .pointer (some ⟨w.heap.size, 3 * x.1, none⟩), .pointer (some ⟨w.heap.size, 3 * x.1, none⟩), undef, undef, undef, undef, undef, undef, undef], defers := [] }) ?assign ?body ?done ?stop
  case assign =>
    intro l x W K hK
    gi_wp2
    exact hK
  case body =>
    rintro l pre ⟨i, hi⟩ W ⟨⟨⟨X0, c0, X1, c1, X2, c2, X3, c3, hv, s0, s1, s2, s3⟩, h1, h5, h6⟩, hW⟩ _
    have hi4 : i = 0 ∨ i = 1 ∨ i = 2 ∨ i = 3 := by omega
    rcases hi4 with rfl | rfl | rfl | rfl
    · have x0 := hv.cell 0
      have x1 := hv.cell 1
      have x2 := hv.cell 2
      simp only [lgA, lgZ, lgS] at x0 x1 x2
      obtain ⟨ea1, ea2, ea3, ea4, ra⟩ := gra.out.1
      have hr := s0.reads (c0' := 0) ra hW
      have hd := dtwin_any ag0 X0 an0 c0 ae0 m.s.ls ea3 (by rw [← ea3]; exact gsm.out.1) W hr
      clear ea1 ea2 ea3 ea4 ra hr
      have hv' := fun w' (h : Below W.heap.size W w') => hv.below h hv.lt
      gi_wp2_with (refine ⟨trivial, ?_⟩; gi_at_call 68; refine (CallsIn.inRound l (callsIn_wide.2 hd)).mono ?_; rintro e w2 ⟨Xo, co, rfl, hco, ho, hb⟩; have hv2 := hv' w2 hb; have y0 := hv2.cell 0; have y1 := hv2.cell 1; have y2 := hv2.cell 2; have f0 := hv2.frozen 0; have f1 := hv2.frozen 1; have f2 := hv2.frozen 2; simp only [lgA, lgZ, lgS] at y0 y1 y2; clear hd hv' x0 x1 x2)
      have hl := hv.lt
      have hg : W.grownBy w2 none := ⟨hb.os, hb.tape, hb.output, hb.size, fun k hk _ => hb.block k hk⟩
      have hv3 := blk3 (i := 0) (ds := #[.bool ag0, .slice Xo an0 co, .int .i64 ae0, .bool ag1, .slice X1 an1 c1, .int .i64 ae1, .bool ag2, .slice X2 an2 c2, .int .i64 ae2, .bool ag3, .slice X3 an3 c3, .int .i64 ae3]) hv2 (.bool ag0) (.slice Xo an0 co) (.int .i64 ae0) (by simp)
      have hsW : w.heap.size + 4 ≤ W.heap.size := h6.lt
      have ho2 := OwnR.far (OwnR.far (OwnR.far (ho.base_le hsW) (p := ⟨w.heap.size, 0, none⟩) (by simp) (.bool ag0)) (p := ⟨w.heap.size, 0 + 1, none⟩) (by simp) (.slice Xo an0 co)) (p := ⟨w.heap.size, 0 + 2, none⟩) (by simp) (.int .i64 ae0)
      have hmv : ∀ {n c c0 : Nat} {l : List Nat} {X0 X : Option Addr} {out out' : Prop}, StT W (w.heap.size + 4) n l X0 c0 out X c → (out → out') → StT (((w2.setCell ⟨w.heap.size, 0, none⟩ (.bool ag0)).setCell ⟨w.heap.size, 0 + 1, none⟩ (.slice Xo an0 co)).setCell ⟨w.heap.size, 0 + 2, none⟩ (.int .i64 ae0)) (w.heap.size + 4) n l X0 c0 out' X c := fun h hh => h.map (fun h => OwnR.far (OwnR.far (OwnR.far (h.below hb) (p := ⟨w.heap.size, 0, none⟩) (by simp) _) (p := ⟨w.heap.size, 0 + 1, none⟩) (by simp) _) (p := ⟨w.heap.size, 0 + 2, none⟩) (by simp) _) hh
      have hfar : ∀ {g : Nat} {t : TypeId} {cs : Array Value}, w.heap.size < g → Blk W g t cs → Blk (((w2.setCell ⟨w.heap.size, 0, none⟩ (.bool ag0)).setCell ⟨w.heap.size, 0 + 1, none⟩ (.slice Xo an0 co)).setCell ⟨w.heap.size, 0 + 2, none⟩ (.int .i64 ae0)) g t cs := fun hg h => (((h.below hb h.lt).far (p := ⟨w.heap.size, 0, none⟩) (by simp; omega) _).far (p := ⟨w.heap.size, 0 + 1, none⟩) (by simp; omega) _).far (p := ⟨w.heap.size, 0 + 2, none⟩) (by simp; omega) _
      have k5 := hfar (by omega) h5
      have k6 := hfar (by omega) h6
      refine ⟨((KeepsOthers.of_grownBy hg (fun j o e ho => by cases e)).trans (KeepsOthers.setCell _ _ _)).trans ((KeepsOthers.setCell _ _ _).trans (KeepsOthers.setCell _ _ _)), ⟨(k5.cell 0).trans (h5.cell 0).symm, (k6.cell 0).trans (h6.cell 0).symm⟩, ⟨⟨Xo, co, X1, c1, X2, c2, X3, c3, hv3, ⟨hco, .inl ho2⟩, hmv s1 (fun h e => h ((List.mem_append.1 e).elim id (fun h => by simp at h))), hmv s2 (fun h e => h ((List.mem_append.1 e).elim id (fun h => by simp at h))), hmv s3 (fun h e => h ((List.mem_append.1 e).elim id (fun h => by simp at h)))⟩, hfar (by omega) h1, k5, k6⟩, ?_⟩
      exact (((hW.trans (hb.mono hW.size)).setCell (p := ⟨w.heap.size, 0, none⟩) (Nat.le_refl _) _).setCell (p := ⟨w.heap.size, 0 + 1, none⟩) (Nat.le_refl _) _).setCell (p := ⟨w.heap.size, 0 + 2, none⟩) (Nat.le_refl _) _
    · have x0 := hv.cell 3
      have x1 := hv.cell 4
      have x2 := hv.cell 5
      simp only [lgA, lgZ, lgS] at x0 x1 x2
      obtain ⟨ea1, ea2, ea3, ea4, ra⟩ := gra.out.2.1
      have hr := s1.reads (c0' := 0) ra hW
      have hd := dtwin_any ag1 X1 an1 c1 ae1 m.w.ls ea3 (by rw [← ea3]; exact gsm.out.2.1) W hr
      clear ea1 ea2 ea3 ea4 ra hr
      have hv' := fun w' (h : Below W.heap.size W w') => hv.below h hv.lt
      gi_wp2_with (refine ⟨trivial, ?_⟩; gi_at_call 68; refine (CallsIn.inRound l (callsIn_wide.2 hd)).mono ?_; rintro e w2 ⟨Xo, co, rfl, hco, ho, hb⟩; have hv2 := hv' w2 hb; have y0 := hv2.cell 3; have y1 := hv2.cell 4; have y2 := hv2.cell 5; have f0 := hv2.frozen 3; have f1 := hv2.frozen 4; have f2 := hv2.frozen 5; simp only [lgA, lgZ, lgS] at y0 y1 y2; clear hd hv' x0 x1 x2)
      have hl := hv.lt
      have hg : W.grownBy w2 none := ⟨hb.os, hb.tape, hb.output, hb.size, fun k hk _ => hb.block k hk⟩
      have hv3 := blk3 (i := 3) (ds := #[.bool ag0, .slice X0 an0 c0, .int .i64 ae0, .bool ag1, .slice Xo an1 co, .int .i64 ae1, .bool ag2, .slice X2 an2 c2, .int .i64 ae2, .bool ag3, .slice X3 an3 c3, .int .i64 ae3]) hv2 (.bool ag1) (.slice Xo an1 co) (.int .i64 ae1) (by simp)
      have hsW : w.heap.size + 4 ≤ W.heap.size := h6.lt
      have ho2 := OwnR.far (OwnR.far (OwnR.far (ho.base_le hsW) (p := ⟨w.heap.size, 3, none⟩) (by simp) (.bool ag1)) (p := ⟨w.heap.size, 3 + 1, none⟩) (by simp) (.slice Xo an1 co)) (p := ⟨w.heap.size, 3 + 2, none⟩) (by simp) (.int .i64 ae1)
      have hmv : ∀ {n c c0 : Nat} {l : List Nat} {X0 X : Option Addr} {out out' : Prop}, StT W (w.heap.size + 4) n l X0 c0 out X c → (out → out') → StT (((w2.setCell ⟨w.heap.size, 3, none⟩ (.bool ag1)).setCell ⟨w.heap.size, 3 + 1, none⟩ (.slice Xo an1 co)).setCell ⟨w.heap.size, 3 + 2, none⟩ (.int .i64 ae1)) (w.heap.size + 4) n l X0 c0 out' X c := fun h hh => h.map (fun h => OwnR.far (OwnR.far (OwnR.far (h.below hb) (p := ⟨w.heap.size, 3, none⟩) (by simp) _) (p := ⟨w.heap.size, 3 + 1, none⟩) (by simp) _) (p := ⟨w.heap.size, 3 + 2, none⟩) (by simp) _) hh
      have hfar : ∀ {g : Nat} {t : TypeId} {cs : Array Value}, w.heap.size < g → Blk W g t cs → Blk (((w2.setCell ⟨w.heap.size, 3, none⟩ (.bool ag1)).setCell ⟨w.heap.size, 3 + 1, none⟩ (.slice Xo an1 co)).setCell ⟨w.heap.size, 3 + 2, none⟩ (.int .i64 ae1)) g t cs := fun hg h => (((h.below hb h.lt).far (p := ⟨w.heap.size, 3, none⟩) (by simp; omega) _).far (p := ⟨w.heap.size, 3 + 1, none⟩) (by simp; omega) _).far (p := ⟨w.heap.size, 3 + 2, none⟩) (by simp; omega) _
      have k5 := hfar (by omega) h5
      have k6 := hfar (by omega) h6
      refine ⟨((KeepsOthers.of_grownBy hg (fun j o e ho => by cases e)).trans (KeepsOthers.setCell _ _ _)).trans ((KeepsOthers.setCell _ _ _).trans (KeepsOthers.setCell _ _ _)), ⟨(k5.cell 0).trans (h5.cell 0).symm, (k6.cell 0).trans (h6.cell 0).symm⟩, ⟨⟨X0, c0, Xo, co, X2, c2, X3, c3, hv3, hmv s0 (fun h e => h ((List.mem_append.1 e).elim id (fun h => by simp at h))), ⟨hco, .inl ho2⟩, hmv s2 (fun h e => h ((List.mem_append.1 e).elim id (fun h => by simp at h))), hmv s3 (fun h e => h ((List.mem_append.1 e).elim id (fun h => by simp at h)))⟩, hfar (by omega) h1, k5, k6⟩, ?_⟩
      exact (((hW.trans (hb.mono hW.size)).setCell (p := ⟨w.heap.size, 3, none⟩) (Nat.le_refl _) _).setCell (p := ⟨w.heap.size, 3 + 1, none⟩) (Nat.le_refl _) _).setCell (p := ⟨w.heap.size, 3 + 2, none⟩) (Nat.le_refl _) _
    · have x0 := hv.cell 6
      have x1 := hv.cell 7
      have x2 := hv.cell 8
      simp only [lgA, lgZ, lgS] at x0 x1 x2
      obtain ⟨ea1, ea2, ea3, ea4, ra⟩ := gra.out.2.2.1
      have hr := s2.reads (c0' := 0) ra hW
      have hd := dtwin_any ag2 X2 an2 c2 ae2 m.c.ls ea3 (by rw [← ea3]; exact gsm.out.2.2.1) W hr
      clear ea1 ea2 ea3 ea4 ra hr
      have hv' := fun w' (h : Below W.heap.size W w') => hv.below h hv.lt
      gi_wp2_with (refine ⟨trivial, ?_⟩; gi_at_call 68; refine (CallsIn.inRound l (callsIn_wide.2 hd)).mono ?_; rintro e w2 ⟨Xo, co, rfl, hco, ho, hb⟩; have hv2 := hv' w2 hb; have y0 := hv2.cell 6; have y1 := hv2.cell 7; have y2 := hv2.cell 8; have f0 := hv2.frozen 6; have f1 := hv2.frozen 7; have f2 := hv2.frozen 8; simp only [lgA, lgZ, lgS] at y0 y1 y2; clear hd hv' x0 x1 x2)
      have hl := hv.lt
      have hg : W.grownBy w2 none := ⟨hb.os, hb.tape, hb.output, hb.size, fun k hk _ => hb.block k hk⟩
      have hv3 := blk3 (i := 6) (ds := #[.bool ag0, .slice X0 an0 c0, .int .i64 ae0, .bool ag1, .slice X1 an1 c1, .int .i64 ae1, .bool ag2, .slice Xo an2 co, .int .i64 ae2, .bool ag3, .slice X3 an3 c3, .int .i64 ae3]) hv2 (.bool ag2) (.slice Xo an2 co) (.int .i64 ae2) (by simp)
      have hsW : w.heap.size + 4 ≤ W.heap.size := h6.lt
      have ho2 := OwnR.far (OwnR.far (OwnR.far (ho.base_le hsW) (p := ⟨w.heap.size, 6, none⟩) (by simp) (.bool ag2)) (p := ⟨w.heap.size, 6 + 1, none⟩) (by simp) (.slice Xo an2 co)) (p := ⟨w.heap.size, 6 + 2, none⟩) (by simp) (.int .i64 ae2)
      have hmv : ∀ {n c c0 : Nat} {l : List Nat} {X0 X : Option Addr} {out out' : Prop}, StT W (w.heap.size + 4) n l X0 c0 out X c → (out → out') → StT (((w2.setCell ⟨w.heap.size, 6, none⟩ (.bool ag2)).setCell ⟨w.heap.size, 6 + 1, none⟩ (.slice Xo an2 co)).setCell ⟨w.heap.size, 6 + 2, none⟩ (.int .i64 ae2)) (w.heap.size + 4) n l X0 c0 out' X c := fun h hh => h.map (fun h => OwnR.far (OwnR.far (OwnR.far (h.below hb) (p := ⟨w.heap.size, 6, none⟩) (by simp) _) (p := ⟨w.heap.size, 6 + 1, none⟩) (by simp) _) (p := ⟨w.heap.size, 6 + 2, none⟩) (by simp) _) hh
      have hfar : ∀ {g : Nat} {t : TypeId} {cs : Array Value}, w.heap.size < g → Blk W g t cs → Blk (((w2.setCell ⟨w.heap.size, 6, none⟩ (.bool ag2)).setCell ⟨w.heap.size, 6 + 1, none⟩ (.slice Xo an2 co)).setCell ⟨w.heap.size, 6 + 2, none⟩ (.int .i64 ae2)) g t cs := fun hg h => (((h.below hb h.lt).far (p := ⟨w.heap.size, 6, none⟩) (by simp; omega) _).far (p := ⟨w.heap.size, 6 + 1, none⟩) (by simp; omega) _).far (p := ⟨w.heap.size, 6 + 2, none⟩) (by simp; omega) _
      have k5 := hfar (by omega) h5
      have k6 := hfar (by omega) h6
      refine ⟨((KeepsOthers.of_grownBy hg (fun j o e ho => by cases e)).trans (KeepsOthers.setCell _ _ _)).trans ((KeepsOthers.setCell _ _ _).trans (KeepsOthers.setCell _ _ _)), ⟨(k5.cell 0).trans (h5.cell 0).symm, (k6.cell 0).trans (h6.cell 0).symm⟩, ⟨⟨X0, c0, X1, c1, Xo, co, X3, c3, hv3, hmv s0 (fun h e => h ((List.mem_append.1 e).elim id (fun h => by simp at h))), hmv s1 (fun h e => h ((List.mem_append.1 e).elim id (fun h => by simp at h))), ⟨hco, .inl ho2⟩, hmv s3 (fun h e => h ((List.mem_append.1 e).elim id (fun h => by simp at h)))⟩, hfar (by omega) h1, k5, k6⟩, ?_⟩
      exact (((hW.trans (hb.mono hW.size)).setCell (p := ⟨w.heap.size, 6, none⟩) (Nat.le_refl _) _).setCell (p := ⟨w.heap.size, 6 + 1, none⟩) (Nat.le_refl _) _).setCell (p := ⟨w.heap.size, 6 + 2, none⟩) (Nat.le_refl _) _
    · have x0 := hv.cell 9
      have x1 := hv.cell 10
      have x2 := hv.cell 11
      simp only [lgA, lgZ, lgS] at x0 x1 x2
      obtain ⟨ea1, ea2, ea3, ea4, ra⟩ := gra.out.2.2.2
      have hr := s3.reads (c0' := 0) ra hW
      have hd := dtwin_any ag3 X3 an3 c3 ae3 m.a.ls ea3 (by rw [← ea3]; exact gsm.out.2.2.2) W hr
      clear ea1 ea2 ea3 ea4 ra hr
      have hv' := fun w' (h : Below W.heap.size W w') => hv.below h hv.lt
      gi_wp2_with (refine ⟨trivial, ?_⟩; gi_at_call 68; refine (CallsIn.inRound l (callsIn_wide.2 hd)).mono ?_; rintro e w2 ⟨Xo, co, rfl, hco, ho, hb⟩; have hv2 := hv' w2 hb; have y0 := hv2.cell 9; have y1 := hv2.cell 10; have y2 := hv2.cell 11; have f0 := hv2.frozen 9; have f1 := hv2.frozen 10; have f2 := hv2.frozen 11; simp only [lgA, lgZ, lgS] at y0 y1 y2; clear hd hv' x0 x1 x2)
      have hl := hv.lt
      have hg : W.grownBy w2 none := ⟨hb.os, hb.tape, hb.output, hb.size, fun k hk _ => hb.block k hk⟩
      have hv3 := blk3 (i := 9) (ds := #[.bool ag0, .slice X0 an0 c0, .int .i64 ae0, .bool ag1, .slice X1 an1 c1, .int .i64 ae1, .bool ag2, .slice X2 an2 c2, .int .i64 ae2, .bool ag3, .slice Xo an3 co, .int .i64 ae3]) hv2 (.bool ag3) (.slice Xo an3 co) (.int .i64 ae3) (by simp)
      have hsW : w.heap.size + 4 ≤ W.heap.size := h6.lt
      have ho2 := OwnR.far (OwnR.far (OwnR.far (ho.base_le hsW) (p := ⟨w.heap.size, 9, none⟩) (by simp) (.bool ag3)) (p := ⟨w.heap.size, 9 + 1, none⟩) (by simp) (.slice Xo an3 co)) (p := ⟨w.heap.size, 9 + 2, none⟩) (by simp) (.int .i64 ae3)
      have hmv : ∀ {n c c0 : Nat} {l : List Nat} {X0 X : Option Addr} {out out' : Prop}, StT W (w.heap.size + 4) n l X0 c0 out X c → (out → out') → StT (((w2.setCell ⟨w.heap.size, 9, none⟩ (.bool ag3)).setCell ⟨w.heap.size, 9 + 1, none⟩ (.slice Xo an3 co)).setCell ⟨w.heap.size, 9 + 2, none⟩ (.int .i64 ae3)) (w.heap.size + 4) n l X0 c0 out' X c := fun h hh => h.map (fun h => OwnR.far (OwnR.far (OwnR.far (h.below hb) (p := ⟨w.heap.size, 9, none⟩) (by simp) _) (p := ⟨w.heap.size, 9 + 1, none⟩) (by simp) _) (p := ⟨w.heap.size, 9 + 2, none⟩) (by simp) _) hh
      have hfar : ∀ {g : Nat} {t : TypeId} {cs : Array Value}, w.heap.size < g → Blk W g t cs → Blk (((w2.setCell ⟨w.heap.size, 9, none⟩ (.bool ag3)).setCell ⟨w.heap.size, 9 + 1, none⟩ (.slice Xo an3 co)).setCell ⟨w.heap.size, 9 + 2, none⟩ (.int .i64 ae3)) g t cs := fun hg h => (((h.below hb h.lt).far (p := ⟨w.heap.size, 9, none⟩) (by simp; omega) _).far (p := ⟨w.heap.size, 9 + 1, none⟩) (by simp; omega) _).far (p := ⟨w.heap.size, 9 + 2, none⟩) (by simp; omega) _
      have k5 := hfar (by omega) h5
      have k6 := hfar (by omega) h6
      refine ⟨((KeepsOthers.of_grownBy hg (fun j o e ho => by cases e)).trans (KeepsOthers.setCell _ _ _)).trans ((KeepsOthers.setCell _ _ _).trans (KeepsOthers.setCell _ _ _)), ⟨(k5.cell 0).trans (h5.cell 0).symm, (k6.cell 0).trans (h6.cell 0).symm⟩, ⟨⟨X0, c0, X1, c1, X2, c2, Xo, co, hv3, hmv s0 (fun h e => h ((List.mem_append.1 e).elim id (fun h => by simp at h))), hmv s1 (fun h e => h ((List.mem_append.1 e).elim id (fun h => by simp at h))), hmv s2 (fun h e => h ((List.mem_append.1 e).elim id (fun h => by simp at h))), ⟨hco, .inl ho2⟩⟩, hfar (by omega) h1, k5, k6⟩, ?_⟩
      exact (((hW.trans (hb.mono hW.size)).setCell (p := ⟨w.heap.size, 9, none⟩) (Nat.le_refl _) _).setCell (p := ⟨w.heap.size, 9 + 1, none⟩) (Nat.le_refl _) _).setCell (p := ⟨w.heap.size, 9 + 2, none⟩) (Nat.le_refl _) _
  case done =>
    rintro D ys W hD rfl ⟨⟨⟨X0, c0, X1, c1, X2, c2, X3, c3, hv, s0, s1, s2, s3⟩, h1, _, _⟩, hW⟩ hK
    have i0 := s0.1
    have i1 := s1.1
    have i2 := s2.1
    have i3 := s3.1
    have o0 := s0.2.elim id (fun h => absurd (by simp) h.1)
    have o1 := s1.2.elim id (fun h => absurd (by simp) h.1)
    have o2 := s2.2.elim id (fun h => absurd (by simp) h.1)
    have o3 := s3.2.elim id (fun h => absurd (by simp) h.1)
    have x0 := hv.cell 0
    have x1 := hv.cell 1
    have x2 := hv.cell 2
    have x3 := hv.cell 3
    have x4 := hv.cell 4
    have x5 := hv.cell 5
    have x6 := hv.cell 6
    have x7 := hv.cell 7
    have x8 := hv.cell 8
    have x9 := hv.cell 9
    have x10 := hv.cell 10
    have x11 := hv.cell 11
    have y0 := h1.cell 0
    have y1 := h1.cell 1
    have y2 := h1.cell 2
    have y3 := h1.cell 3
    have y4 := h1.cell 4
    have y5 := h1.cell 5
    have y6 := h1.cell 6
    have y7 := h1.cell 7
    have y8 := h1.cell 8
    have y9 := h1.cell 9
    have y10 := h1.cell 10
    have y11 := h1.cell 11
    have f0 := h1.frozen 0
    have f1 := h1.frozen 1
    have f2 := h1.frozen 2
    have f3 := h1.frozen 3
    have f4 := h1.frozen 4
    have f5 := h1.frozen 5
    have f6 := h1.frozen 6
    have f7 := h1.frozen 7
    have f8 := h1.frozen 8
    have f9 := h1.frozen 9
    have f10 := h1.frozen 10
    have f11 := h1.frozen 11
    simp only [lgA, lgZ, lgS] at x0 y0 x1 y1 x2 y2 x3 y3 x4 y4 x5 y5 x6 y6 x7 y7 x8 y8 x9 y9 x10 y10 x11 y11
    have hD' : w.heap.size + 4 ≤ D := by rw [gsz.out] at hD; exact hD
    have hDl : D < W.heap.size := (Array.getElem?_eq_some_iff.1 hK).1
    obtain ⟨W9, hW9⟩ : ∃ W9, W9 = (((((((((((W.setCell ⟨w.heap.size + 1, 0, none⟩ (.bool ag0)).setCell ⟨w.heap.size + 1, 1, none⟩ (.slice X0 an0 c0)).setCell ⟨w.heap.size + 1, 2, none⟩ (.int .i64 ae0)).setCell ⟨w.heap.size + 1, 3, none⟩ (.bool ag1)).setCell ⟨w.heap.size + 1, 4, none⟩ (.slice X1 an1 c1)).setCell ⟨w.heap.size + 1, 5, none⟩ (.int .i64 ae1)).setCell ⟨w.heap.size + 1, 6, none⟩ (.bool ag2)).setCell ⟨w.heap.size + 1, 7, none⟩ (.slice X2 an2 c2)).setCell ⟨w.heap.size + 1, 8, none⟩ (.int .i64 ae2)).setCell ⟨w.heap.size + 1, 9, none⟩ (.bool ag3)).setCell ⟨w.heap.size + 1, 10, none⟩ (.slice X3 an3 c3)).setCell ⟨w.heap.size + 1, 11, none⟩ (.int .i64 ae3) := ⟨_, rfl⟩
    have hK2 : W9.heap[D]? = some (.deferred (some [])) := by rw [hW9]; exact (KeepsOthers.setCell _ ⟨w.heap.size + 1, 11, none⟩ _).same D _ ((KeepsOthers.setCell _ ⟨w.heap.size + 1, 10, none⟩ _).same D _ ((KeepsOthers.setCell _ ⟨w.heap.size + 1, 9, none⟩ _).same D _ ((KeepsOthers.setCell _ ⟨w.heap.size + 1, 8, none⟩ _).same D _ ((KeepsOthers.setCell _ ⟨w.heap.size + 1, 7, none⟩ _).same D _ ((KeepsOthers.setCell _ ⟨w.heap.size + 1, 6, none⟩ _).same D _ ((KeepsOthers.setCell _ ⟨w.heap.size + 1, 5, none⟩ _).same D _ ((KeepsOthers.setCell _ ⟨w.heap.size + 1, 4, none⟩ _).same D _ ((KeepsOthers.setCell _ ⟨w.heap.size + 1, 3, none⟩ _).same D _ ((KeepsOthers.setCell _ ⟨w.heap.size + 1, 2, none⟩ _).same D _ ((KeepsOthers.setCell _ ⟨w.heap.size + 1, 1, none⟩ _).same D _ ((KeepsOthers.setCell _ ⟨w.heap.size + 1, 0, none⟩ _).same D _ (hK) rfl) rfl) rfl) rfl) rfl) rfl) rfl) rfl) rfl) rfl) rfl) rfl
    have B5 : Blk W9 (w.heap.size + 1) 27 #[.bool ag0, .slice X0 an0 c0, .int .i64 ae0, .bool ag1, .slice X1 an1 c1, .int .i64 ae1, .bool ag2, .slice X2 an2 c2, .int .i64 ae2, .bool ag3, .slice X3 an3 c3, .int .i64 ae3] := by rw [hW9]; exact blk12 h1 (.bool ag0) (.slice X0 an0 c0) (.int .i64 ae0) (.bool ag1) (.slice X1 an1 c1) (.int .i64 ae1) (.bool ag2) (.slice X2 an2 c2) (.int .i64 ae2) (.bool ag3) (.slice X3 an3 c3) (.int .i64 ae3)
    have B6 := B5.grown (grownBy_putObj' _ D (.deferred none)) (by simp; omega)
    have q0 := B6.cell 0
    have q1 := B6.cell 1
    have q2 := B6.cell 2
    have q3 := B6.cell 3
    have q4 := B6.cell 4
    have q5 := B6.cell 5
    have q6 := B6.cell 6
    have q7 := B6.cell 7
    have q8 := B6.cell 8
    have q9 := B6.cell 9
    have q10 := B6.cell 10
    have q11 := B6.cell 11
    simp only [lgA, lgZ, lgS] at q0 q1 q2 q3 q4 q5 q6 q7 q8 q9 q10 q11
    have hb9 : Below w.heap.size w W9 := by rw [hW9]; exact Below.setCell (p := ⟨w.heap.size + 1, 11, none⟩) (Below.setCell (p := ⟨w.heap.size + 1, 10, none⟩) (Below.setCell (p := ⟨w.heap.size + 1, 9, none⟩) (Below.setCell (p := ⟨w.heap.size + 1, 8, none⟩) (Below.setCell (p := ⟨w.heap.size + 1, 7, none⟩) (Below.setCell (p := ⟨w.heap.size + 1, 6, none⟩) (Below.setCell (p := ⟨w.heap.size + 1, 5, none⟩) (Below.setCell (p := ⟨w.heap.size + 1, 4, none⟩) (Below.setCell (p := ⟨w.heap.size + 1, 3, none⟩) (Below.setCell (p := ⟨w.heap.size + 1, 2, none⟩) (Below.setCell (p := ⟨w.heap.size + 1, 1, none⟩) (Below.setCell (p := ⟨w.heap.size + 1, 0, none⟩) (hW) (by simp) _) (by simp) _) (by simp) _) (by simp) _) (by simp) _) (by simp) _) (by simp) _) (by simp) _) (by simp) _) (by simp) _) (by simp) _) (by simp) _
    have hof : ∀ {n : Nat} {X : Option Addr} {xs : List Value}, OwnR W (w.heap.size + 4) 71 X n xs → OwnR W9 w.heap.size 71 X n xs := fun h => by rw [hW9]; exact OwnR.base_le (OwnR.far (p := ⟨w.heap.size + 1, 11, none⟩) (OwnR.far (p := ⟨w.heap.size + 1, 10, none⟩) (OwnR.far (p := ⟨w.heap.size + 1, 9, none⟩) (OwnR.far (p := ⟨w.heap.size + 1, 8, none⟩) (OwnR.far (p := ⟨w.heap.size + 1, 7, none⟩) (OwnR.far (p := ⟨w.heap.size + 1, 6, none⟩) (OwnR.far (p := ⟨w.heap.size + 1, 5, none⟩) (OwnR.far (p := ⟨w.heap.size + 1, 4, none⟩) (OwnR.far (p := ⟨w.heap.size + 1, 3, none⟩) (OwnR.far (p := ⟨w.heap.size + 1, 2, none⟩) (OwnR.far (p := ⟨w.heap.size + 1, 1, none⟩) (OwnR.far (p := ⟨w.heap.size + 1, 0, none⟩) (h) (by simp) _) (by simp) _) (by simp) _) (by simp) _) (by simp) _) (by simp) _) (by simp) _) (by simp) _) (by simp) _) (by simp) _) (by simp) _) (by simp) _) (by omega)
    clear B5 B6 hv h1 s0 s1 s2 s3
    gi_wp2
    rw [← hW9]
    refine ⟨by simp, .inl ⟨_, _, rfl, run_takeDeferred hK2, ?_⟩⟩
    have hrD : ∀ r, some D = some r → ∃ o : Obj, W9.heap[r]? = some o ∧ o.isCells = false := fun r e => by injection e with e; subst e; exact ⟨_, hK2, rfl⟩
    refine ⟨.agg #[.bool ag0, .slice X0 an0 c0, .int .i64 ae0, .bool ag1, .slice X1 an1 c1, .int .i64 ae1, .bool ag2, .slice X2 an2 c2, .int .i64 ae2, .bool ag3, .slice X3 an3 c3, .int .i64 ae3], ?_, X0, c0, X1, c1, X2, c2, X3, c3, rfl, ⟨i0, ownR_own (hof o0) (grownBy_putObj' _ D _) hrD⟩, ⟨i1, ownR_own (hof o1) (grownBy_putObj' _ D _) hrD⟩, ⟨i2, ownR_own (hof o2) (grownBy_putObj' _ D _) hrD⟩, ⟨i3, ownR_own (hof o3) (grownBy_putObj' _ D _) hrD⟩, hb9.trans (belowK_b (w := w) (Nat.le_refl _) _ D _ _ (by omega) hK2 rfl rfl)⟩
    simp [results, Tryd.f36, go_sem, q0, q1, q2, q3, q4, q5, q6, q7, q8, q9, q10, q11]
  case stop =>
    rintro D c pre W _ _ h _
    exact h.elim
end Go.Proofs.YtdmjdpaehnhdoaaDoor
namespace Go.Proofs.YtdmjdpaehnhdoaaDoor
open Go.ChangeShapes Go.WideShapes Go.ChangeAt Go.RowKit
set_option linter.unusedSimpArgs false
set_option linter.unusedVariables false
def grM (n0 : Nat) (e0 : Int) (n1 : Nat) (e1 : Int) (n2 : Nat) (e2 : Int) (n3 : Nat) (e3 : Int) : Bool := grD n0 e0 || grD n1 e1 || grD n2 e2 || grD n3 e3
set_option maxHeartbeats 4000000 in
theorem mgreat_any (ag0 : Bool) (aX0 : Option Addr) (an0 ac0 : Nat) (ae0 : Int) (ag1 : Bool) (aX1 : Option Addr) (an1 ac1 : Nat) (ae1 : Int) (ag2 : Bool) (aX2 : Option Addr) (an2 ac2 : Nat) (ae2 : Int) (ag3 : Bool) (aX3 : Option Addr) (an3 ac3 : Nat) (ae3 : Int) (R : Bool) (hR : grM an0 ae0 an1 ae1 an2 ae2 an3 ae3 = R) (w : World) :
    Calls Tryd.prog 30 #[.agg #[.bool ag0, .slice aX0 an0 ac0, .int .i64 ae0, .bool ag1, .slice aX1 an1 ac1, .int .i64 ae1, .bool ag2, .slice aX2 an2 ac2, .int .i64 ae2, .bool ag3, .slice aX3 an3 ac3, .int .i64 ae3]] w fun en w' => en = .returned (.bool R) ∧ Below w.heap.size w w' := by
  have hB := (Below.refl w.heap.size w).alloc (Nat.le_refl _) (.cells #[.bool ag0, .slice aX0 an0 ac0, .int .i64 ae0, .bool ag1, .slice aX1 an1 ac1, .int .i64 ae1, .bool ag2, .slice aX2 an2 ac2, .int .i64 ae2, .bool ag3, .slice aX3 an3 ac3, .int .i64 ae3] 27)
  have kb := Blk.new w 27 #[.bool ag0, .slice aX0 an0 ac0, .int .i64 ae0, .bool ag1, .slice aX1 an1 ac1, .int .i64 ae1, .bool ag2, .slice aX2 an2 ac2, .int .i64 ae2, .bool ag3, .slice aX3 an3 ac3, .int .i64 ae3]
  unfold grM at hR
  obtain ⟨Q0, hQ0⟩ : ∃ Q, grD an0 ae0 = Q := ⟨_, rfl⟩
  have hc0 := fun w => dgreat_any ag0 aX0 an0 ac0 ae0 Q0 hQ0 w
  obtain ⟨Q1, hQ1⟩ : ∃ Q, grD an1 ae1 = Q := ⟨_, rfl⟩
  have hc1 := fun w => dgreat_any ag1 aX1 an1 ac1 ae1 Q1 hQ1 w
  obtain ⟨Q2, hQ2⟩ : ∃ Q, grD an2 ae2 = Q := ⟨_, rfl⟩
  have hc2 := fun w => dgreat_any ag2 aX2 an2 ac2 ae2 Q2 hQ2 w
  obtain ⟨Q3, hQ3⟩ : ∃ Q, grD an3 ae3 = Q := ⟨_, rfl⟩
  have hc3 := fun w => dgreat_any ag3 aX3 an3 ac3 ae3 Q3 hQ3 w
  rw [hQ0, hQ1, hQ2, hQ3] at hR
  clear hQ0 hQ1 hQ2 hQ3
  cases Q0 with
  | true =>
    simp only [Bool.or_true, Bool.true_or, Bool.or_false, Bool.false_or, Bool.and_true, Bool.true_and, Bool.and_false, Bool.false_and] at hR
    subst hR
    go_enter Tryd.func30, Tryd.ntmps30
    go_wp2_with fail
    refine (hc0 _).mono ?_
    rintro en w1 ⟨rfl, hb1⟩
    have hB1 := hB.trans (hb1.mono hB.size)
    go_wp2
    go_ret
    exact ⟨rfl, hB1⟩
  | false =>
    cases Q1 with
    | true =>
      simp only [Bool.or_true, Bool.true_or, Bool.or_false, Bool.false_or, Bool.and_true, Bool.true_and, Bool.and_false, Bool.false_and] at hR
      subst hR
      go_enter Tryd.func30, Tryd.ntmps30
      go_wp2_with fail
      refine (hc0 _).mono ?_
      rintro en w1 ⟨rfl, hb1⟩
      have hB1 := hB.trans (hb1.mono hB.size)
      have kb1 := kb.below (hb1) kb.lt
      have x0_0 := kb1.cell 0
      have x0_1 := kb1.cell 1
      have x0_2 := kb1.cell 2
      have x0_3 := kb1.cell 3
      have x0_4 := kb1.cell 4
      have x0_5 := kb1.cell 5
      have x0_6 := kb1.cell 6
      have x0_7 := kb1.cell 7
      have x0_8 := kb1.cell 8
      have x0_9 := kb1.cell 9
      have x0_10 := kb1.cell 10
      have x0_11 := kb1.cell 11
      simp only [lgA, lgZ, lgS] at x0_0 x0_1 x0_2 x0_3 x0_4 x0_5 x0_6 x0_7 x0_8 x0_9 x0_10 x0_11
      go_wp2_with fail
      refine (hc1 _).mono ?_
      rintro en w2 ⟨rfl, hb2⟩
      have hB2 := hB1.trans (hb2.mono hB1.size)
      go_wp2
      go_ret
      exact ⟨rfl, hB2⟩
    | false =>
      cases Q2 with
      | true =>
        simp only [Bool.or_true, Bool.true_or, Bool.or_false, Bool.false_or, Bool.and_true, Bool.true_and, Bool.and_false, Bool.false_and] at hR
        subst hR
        go_enter Tryd.func30, Tryd.ntmps30
        go_wp2_with fail
        refine (hc0 _).mono ?_
        rintro en w1 ⟨rfl, hb1⟩
        have hB1 := hB.trans (hb1.mono hB.size)
        have kb1 := kb.below (hb1) kb.lt
        have x0_0 := kb1.cell 0
        have x0_1 := kb1.cell 1
        have x0_2 := kb1.cell 2
        have x0_3 := kb1.cell 3
        have x0_4 := kb1.cell 4
        have x0_5 := kb1.cell 5
        have x0_6 := kb1.cell 6
        have x0_7 := kb1.cell 7
        have x0_8 := kb1.cell 8
        have x0_9 := kb1.cell 9
        have x0_10 := kb1.cell 10
        have x0_11 := kb1.cell 11
        simp only [lgA, lgZ, lgS] at x0_0 x0_1 x0_2 x0_3 x0_4 x0_5 x0_6 x0_7 x0_8 x0_9 x0_10 x0_11
        go_wp2_with fail
        refine (hc1 _).mono ?_
        rintro en w2 ⟨rfl, hb2⟩
        have hB2 := hB1.trans (hb2.mono hB1.size)
        have kb2 := kb.below ((hb1).trans (hb2.mono (hb1).size)) kb.lt
        have x1_0 := kb2.cell 0
        have x1_1 := kb2.cell 1
        have x1_2 := kb2.cell 2
        have x1_3 := kb2.cell 3
        have x1_4 := kb2.cell 4
        have x1_5 := kb2.cell 5
        have x1_6 := kb2.cell 6
        have x1_7 := kb2.cell 7
        have x1_8 := kb2.cell 8
        have x1_9 := kb2.cell 9
        have x1_10 := kb2.cell 10
        have x1_11 := kb2.cell 11
        simp only [lgA, lgZ, lgS] at x1_0 x1_1 x1_2 x1_3 x1_4 x1_5 x1_6 x1_7 x1_8 x1_9 x1_10 x1_11
        go_wp2_with fail
        refine (hc2 _).mono ?_
        rintro en w3 ⟨rfl, hb3⟩
        have hB3 := hB2.trans (hb3.mono hB2.size)
        go_wp2
        go_ret
        exact ⟨rfl, hB3⟩
      | false =>
        cases Q3 with
        | true =>
          simp only [Bool.or_true, Bool.true_or, Bool.or_false, Bool.false_or, Bool.and_true, Bool.true_and, Bool.and_false, Bool.false_and] at hR
          subst hR
          go_enter Tryd.func30, Tryd.ntmps30
          go_wp2_with fail
          refine (hc0 _).mono ?_
          rintro en w1 ⟨rfl, hb1⟩
          have hB1 := hB.trans (hb1.mono hB.size)
          have kb1 := kb.below (hb1) kb.lt
          have x0_0 := kb1.cell 0
          have x0_1 := kb1.cell 1
          have x0_2 := kb1.cell 2
          have x0_3 := kb1.cell 3
          have x0_4 := kb1.cell 4
          have x0_5 := kb1.cell 5
          have x0_6 := kb1.cell 6
          have x0_7 := kb1.cell 7
          have x0_8 := kb1.cell 8
          have x0_9 := kb1.cell 9
          have x0_10 := kb1.cell 10
          have x0_11 := kb1.cell 11
          simp only [lgA, lgZ, lgS] at x0_0 x0_1 x0_2 x0_3 x0_4 x0_5 x0_6 x0_7 x0_8 x0_9 x0_10 x0_11
          go_wp2_with fail
          refine (hc1 _).mono ?_
          rintro en w2 ⟨rfl, hb2⟩
          have hB2 := hB1.trans (hb2.mono hB1.size)
          have kb2 := kb.below ((hb1).trans (hb2.mono (hb1).size)) kb.lt
          have x1_0 := kb2.cell 0
          have x1_1 := kb2.cell 1
          have x1_2 := kb2.cell 2
          have x1_3 := kb2.cell 3
          have x1_4 := kb2.cell 4
          have x1_5 := kb2.cell 5
          have x1_6 := kb2.cell 6
          have x1_7 := kb2.cell 7
          have x1_8 := kb2.cell 8
          have x1_9 := kb2.cell 9
          have x1_10 := kb2.cell 10
          have x1_11 := kb2.cell 11
          simp only [lgA, lgZ, lgS] at x1_0 x1_1 x1_2 x1_3 x1_4 x1_5 x1_6 x1_7 x1_8 x1_9 x1_10 x1_11
          go_wp2_with fail
          refine (hc2 _).mono ?_
          rintro en w3 ⟨rfl, hb3⟩
          have hB3 := hB2.trans (hb3.mono hB2.size)
          have kb3 := kb.below (((hb1).trans (hb2.mono (hb1).size)).trans (hb3.mono ((hb1).trans (hb2.mono (hb1).size)).size)) kb.lt
          have x2_0 := kb3.cell 0
          have x2_1 := kb3.cell 1
          have x2_2 := kb3.cell 2
          have x2_3 := kb3.cell 3
          have x2_4 := kb3.cell 4
          have x2_5 := kb3.cell 5
          have x2_6 := kb3.cell 6
          have x2_7 := kb3.cell 7
          have x2_8 := kb3.cell 8
          have x2_9 := kb3.cell 9
          have x2_10 := kb3.cell 10
          have x2_11 := kb3.cell 11
          simp only [lgA, lgZ, lgS] at x2_0 x2_1 x2_2 x2_3 x2_4 x2_5 x2_6 x2_7 x2_8 x2_9 x2_10 x2_11
          go_wp2_with fail
          refine (hc3 _).mono ?_
          rintro en w4 ⟨rfl, hb4⟩
          have hB4 := hB3.trans (hb4.mono hB3.size)
          go_wp2
          go_ret
          exact ⟨rfl, hB4⟩
        | false =>
          simp only [Bool.or_true, Bool.true_or, Bool.or_false, Bool.false_or, Bool.and_true, Bool.true_and, Bool.and_false, Bool.false_and] at hR
          subst hR
          go_enter Tryd.func30, Tryd.ntmps30
          go_wp2_with fail
          refine (hc0 _).mono ?_
          rintro en w1 ⟨rfl, hb1⟩
          have hB1 := hB.trans (hb1.mono hB.size)
          have kb1 := kb.below (hb1) kb.lt
          have x0_0 := kb1.cell 0
          have x0_1 := kb1.cell 1
          have x0_2 := kb1.cell 2
          have x0_3 := kb1.cell 3
          have x0_4 := kb1.cell 4
          have x0_5 := kb1.cell 5
          have x0_6 := kb1.cell 6
          have x0_7 := kb1.cell 7
          have x0_8 := kb1.cell 8
          have x0_9 := kb1.cell 9
          have x0_10 := kb1.cell 10
          have x0_11 := kb1.cell 11
          simp only [lgA, lgZ, lgS] at x0_0 x0_1 x0_2 x0_3 x0_4 x0_5 x0_6 x0_7 x0_8 x0_9 x0_10 x0_11
          go_wp2_with fail
          refine (hc1 _).mono ?_
          rintro en w2 ⟨rfl, hb2⟩
          have hB2 := hB1.trans (hb2.mono hB1.size)
          have kb2 := kb.below ((hb1).trans (hb2.mono (hb1).size)) kb.lt
          have x1_0 := kb2.cell 0
          have x1_1 := kb2.cell 1
          have x1_2 := kb2.cell 2
          have x1_3 := kb2.cell 3
          have x1_4 := kb2.cell 4
          have x1_5 := kb2.cell 5
          have x1_6 := kb2.cell 6
          have x1_7 := kb2.cell 7
          have x1_8 := kb2.cell 8
          have x1_9 := kb2.cell 9
          have x1_10 := kb2.cell 10
          have x1_11 := kb2.cell 11
          simp only [lgA, lgZ, lgS] at x1_0 x1_1 x1_2 x1_3 x1_4 x1_5 x1_6 x1_7 x1_8 x1_9 x1_10 x1_11
          go_wp2_with fail
          refine (hc2 _).mono ?_
          rintro en w3 ⟨rfl, hb3⟩
          have hB3 := hB2.trans (hb3.mono hB2.size)
          have kb3 := kb.below (((hb1).trans (hb2.mono (hb1).size)).trans (hb3.mono ((hb1).trans (hb2.mono (hb1).size)).size)) kb.lt
          have x2_0 := kb3.cell 0
          have x2_1 := kb3.cell 1
          have x2_2 := kb3.cell 2
          have x2_3 := kb3.cell 3
          have x2_4 := kb3.cell 4
          have x2_5 := kb3.cell 5
          have x2_6 := kb3.cell 6
          have x2_7 := kb3.cell 7
          have x2_8 := kb3.cell 8
          have x2_9 := kb3.cell 9
          have x2_10 := kb3.cell 10
          have x2_11 := kb3.cell 11
          simp only [lgA, lgZ, lgS] at x2_0 x2_1 x2_2 x2_3 x2_4 x2_5 x2_6 x2_7 x2_8 x2_9 x2_10 x2_11
          go_wp2_with fail
          refine (hc3 _).mono ?_
          rintro en w4 ⟨rfl, hb4⟩
          have hB4 := hB3.trans (hb4.mono hB3.size)
          go_wp2
          go_ret
          exact ⟨rfl, hB4⟩
set_option maxHeartbeats 8000000 in
theorem rmsame_any (ag0 : Bool) (aX0 : Option Addr) (an0 ac0 : Nat) (ae0 : Int) (ag1 : Bool) (aX1 : Option Addr) (an1 ac1 : Nat) (ae1 : Int) (ag2 : Bool) (aX2 : Option Addr) (an2 ac2 : Nat) (ae2 : Int) (ag3 : Bool) (aX3 : Option Addr) (an3 ac3 : Nat) (ae3 : Int) (bg0 : Bool) (bX0 : Option Addr) (bn0 bc0 : Nat) (be0 : Int) (bg1 : Bool) (bX1 : Option Addr) (bn1 bc1 : Nat) (be1 : Int) (bg2 : Bool) (bX2 : Option Addr) (bn2 bc2 : Nat) (be2 : Int) (bg3 : Bool) (bX3 : Option Addr) (bn3 bc3 : Nat) (be3 : Int) (m k : Ms) (hsm : smM m) (hsk : smM k) (w : World) (ra : RdM w w.heap.size ag0 aX0 an0 ac0 ae0 ag1 aX1 an1 ac1 ae1 ag2 aX2 an2 ac2 ae2 ag3 aX3 an3 ac3 ae3 m) (rb : RdM w w.heap.size bg0 bX0 bn0 bc0 be0 bg1 bX1 bn1 bc1 be1 bg2 bX2 bn2 bc2 be2 bg3 bX3 bn3 bc3 be3 k) (R : Bool) (hR : decide (m = k) = R) :
    Calls Tryd.prog 15 #[.agg #[.bool ag0, .slice aX0 an0 ac0, .int .i64 ae0, .bool ag1, .slice aX1 an1 ac1, .int .i64 ae1, .bool ag2, .slice aX2 an2 ac2, .int .i64 ae2, .bool ag3, .slice aX3 an3 ac3, .int .i64 ae3], .agg #[.bool bg0, .slice bX0 bn0 bc0, .int .i64 be0, .bool bg1, .slice bX1 bn1 bc1, .int .i64 be1, .bool bg2, .slice bX2 bn2 bc2, .int .i64 be2, .bool bg3, .slice bX3 bn3 bc3, .int .i64 be3]] w fun en w' => en = .returned (.bool R) ∧ Below w.heap.size w w' := by
  obtain ⟨V, hV⟩ : ∃ V, V = (w.alloc (.cells #[.bool ag0, .slice aX0 an0 ac0, .int .i64 ae0, .bool ag1, .slice aX1 an1 ac1, .int .i64 ae1, .bool ag2, .slice aX2 an2 ac2, .int .i64 ae2, .bool ag3, .slice aX3 an3 ac3, .int .i64 ae3] 27)).alloc (.cells #[.bool bg0, .slice bX0 bn0 bc0, .int .i64 be0, .bool bg1, .slice bX1 bn1 bc1, .int .i64 be1, .bool bg2, .slice bX2 bn2 bc2, .int .i64 be2, .bool bg3, .slice bX3 bn3 bc3, .int .i64 be3] 27) := ⟨_, rfl⟩
  have hB : Below w.heap.size w V := by rw [hV]; exact ((Below.refl w.heap.size w).alloc (Nat.le_refl _) _).alloc (by simp) _
  have kb : Blk V w.heap.size 27 #[.bool ag0, .slice aX0 an0 ac0, .int .i64 ae0, .bool ag1, .slice aX1 an1 ac1, .int .i64 ae1, .bool ag2, .slice aX2 an2 ac2, .int .i64 ae2, .bool ag3, .slice aX3 an3 ac3, .int .i64 ae3] := by rw [hV]; exact (Blk.new w _ _).alloc _
  have kc : Blk V (w.heap.size + 1) 27 #[.bool bg0, .slice bX0 bn0 bc0, .int .i64 be0, .bool bg1, .slice bX1 bn1 bc1, .int .i64 be1, .bool bg2, .slice bX2 bn2 bc2, .int .i64 be2, .bool bg3, .slice bX3 bn3 bc3, .int .i64 be3] := by
    have := Blk.new (w.alloc (.cells #[.bool ag0, .slice aX0 an0 ac0, .int .i64 ae0, .bool ag1, .slice aX1 an1 ac1, .int .i64 ae1, .bool ag2, .slice aX2 an2 ac2, .int .i64 ae2, .bool ag3, .slice aX3 an3 ac3, .int .i64 ae3] 27)) 27 #[.bool bg0, .slice bX0 bn0 bc0, .int .i64 be0, .bool bg1, .slice bX1 bn1 bc1, .int .i64 be1, .bool bg2, .slice bX2 bn2 bc2, .int .i64 be2, .bool bg3, .slice bX3 bn3 bc3, .int .i64 be3]
    rw [World.size_alloc] at this
    rw [hV]; exact this
  have hms : (m = k) ↔ (prt m 0 = prt k 0 ∧ prt m 1 = prt k 1 ∧ prt m 2 = prt k 2 ∧ prt m 3 = prt k 3) := ⟨fun h => by rw [h]; exact ⟨rfl, rfl, rfl, rfl⟩, fun ⟨a, b, c, d⟩ => ms_eq (fun i hi => match i, hi with | 0, _ => a | 1, _ => b | 2, _ => c | 3, _ => d)⟩
  obtain ⟨Q0, hQ0⟩ : ∃ Q, decide (prt m 0 = prt k 0) = Q := ⟨_, rfl⟩
  obtain ⟨ea1, ea2, ea3, ea4, ra0⟩ := ra.1
  obtain ⟨eb1, eb2, eb3, eb4, rb0⟩ := rb.1
  have hc0 := fun w' (h : Below V.heap.size V w') => rdsame_any ag0 bg0 aX0 bX0 an0 bn0 ac0 bc0 ae0 be0 m.s.ls k.s.ls ea3 eb3 (by rw [← ea3]; exact hsm.1) (by rw [← eb3]; exact hsk.1) Q0 (by rw [← hQ0]; simp only [prt]; rw [← ea1, ← ea2, ← eb1, ← eb2]) w' ((ra0.below (hB.trans (h.mono hB.size))).more (hB.trans (h.mono hB.size)).size) ((rb0.below (hB.trans (h.mono hB.size))).more (hB.trans (h.mono hB.size)).size)
  clear ea1 ea2 ea3 ea4 eb1 eb2 eb3 eb4
  obtain ⟨Q1, hQ1⟩ : ∃ Q, decide (prt m 1 = prt k 1) = Q := ⟨_, rfl⟩
  obtain ⟨ea1, ea2, ea3, ea4, ra1⟩ := ra.2.1
  obtain ⟨eb1, eb2, eb3, eb4, rb1⟩ := rb.2.1
  have hc1 := fun w' (h : Below V.heap.size V w') => rdsame_any ag1 bg1 aX1 bX1 an1 bn1 ac1 bc1 ae1 be1 m.w.ls k.w.ls ea3 eb3 (by rw [← ea3]; exact hsm.2.1) (by rw [← eb3]; exact hsk.2.1) Q1 (by rw [← hQ1]; simp only [prt]; rw [← ea1, ← ea2, ← eb1, ← eb2]) w' ((ra1.below (hB.trans (h.mono hB.size))).more (hB.trans (h.mono hB.size)).size) ((rb1.below (hB.trans (h.mono hB.size))).more (hB.trans (h.mono hB.size)).size)
  clear ea1 ea2 ea3 ea4 eb1 eb2 eb3 eb4
  obtain ⟨Q2, hQ2⟩ : ∃ Q, decide (prt m 2 = prt k 2) = Q := ⟨_, rfl⟩
  obtain ⟨ea1, ea2, ea3, ea4, ra2⟩ := ra.2.2.1
  obtain ⟨eb1, eb2, eb3, eb4, rb2⟩ := rb.2.2.1
  have hc2 := fun w' (h : Below V.heap.size V w') => rdsame_any ag2 bg2 aX2 bX2 an2 bn2 ac2 bc2 ae2 be2 m.c.ls k.c.ls ea3 eb3 (by rw [← ea3]; exact hsm.2.2.1) (by rw [← eb3]; exact hsk.2.2.1) Q2 (by rw [← hQ2]; simp only [prt]; rw [← ea1, ← ea2, ← eb1, ← eb2]) w' ((ra2.below (hB.trans (h.mono hB.size))).more (hB.trans (h.mono hB.size)).size) ((rb2.below (hB.trans (h.mono hB.size))).more (hB.trans (h.mono hB.size)).size)
  clear ea1 ea2 ea3 ea4 eb1 eb2 eb3 eb4
  obtain ⟨Q3, hQ3⟩ : ∃ Q, decide (prt m 3 = prt k 3) = Q := ⟨_, rfl⟩
  obtain ⟨ea1, ea2, ea3, ea4, ra3⟩ := ra.2.2.2
  obtain ⟨eb1, eb2, eb3, eb4, rb3⟩ := rb.2.2.2
  have hc3 := fun w' (h : Below V.heap.size V w') => rdsame_any ag3 bg3 aX3 bX3 an3 bn3 ac3 bc3 ae3 be3 m.a.ls k.a.ls ea3 eb3 (by rw [← ea3]; exact hsm.2.2.2) (by rw [← eb3]; exact hsk.2.2.2) Q3 (by rw [← hQ3]; simp only [prt]; rw [← ea1, ← ea2, ← eb1, ← eb2]) w' ((ra3.below (hB.trans (h.mono hB.size))).more (hB.trans (h.mono hB.size)).size) ((rb3.below (hB.trans (h.mono hB.size))).more (hB.trans (h.mono hB.size)).size)
  clear ea1 ea2 ea3 ea4 eb1 eb2 eb3 eb4
  have hR2 : (Q0 && (Q1 && (Q2 && Q3))) = R := by rw [← hR, ← hQ0, ← hQ1, ← hQ2, ← hQ3, ← Bool.decide_and, ← Bool.decide_and, ← Bool.decide_and]; exact decide_eq_decide.2 hms.symm
  clear hR hQ0 hQ1 hQ2 hQ3 hms ra rb ra0 ra1 ra2 ra3 rb0 rb1 rb2 rb3 hsm hsk
  have hR := hR2
  clear hR2
  cases Q0 with
  | true =>
    cases Q1 with
    | true =>
      cases Q2 with
      | true =>
        cases Q3 with
        | true =>
          simp only [Bool.or_true, Bool.true_or, Bool.or_false, Bool.false_or, Bool.and_true, Bool.true_and, Bool.and_false, Bool.false_and] at hR
          subst hR
          go_enter Tryd.func15, Tryd.ntmps15
          go_wp2_with fail
          rw [← hV]
          clear hV
          refine (hc0 _ (Below.refl _ _)).mono ?_
          rintro en w1 ⟨rfl, hb1⟩
          have hB1 := hB.trans (hb1.mono hB.size)
          have kb1 := kb.below (hb1) kb.lt
          have x0_0 := kb1.cell 0
          have x0_1 := kb1.cell 1
          have x0_2 := kb1.cell 2
          have x0_3 := kb1.cell 3
          have x0_4 := kb1.cell 4
          have x0_5 := kb1.cell 5
          have x0_6 := kb1.cell 6
          have x0_7 := kb1.cell 7
          have x0_8 := kb1.cell 8
          have x0_9 := kb1.cell 9
          have x0_10 := kb1.cell 10
          have x0_11 := kb1.cell 11
          simp only [lgA, lgZ, lgS] at x0_0 x0_1 x0_2 x0_3 x0_4 x0_5 x0_6 x0_7 x0_8 x0_9 x0_10 x0_11
          have kc1 := kc.below (hb1) kc.lt
          have y0_0 := kc1.cell 0
          have y0_1 := kc1.cell 1
          have y0_2 := kc1.cell 2
          have y0_3 := kc1.cell 3
          have y0_4 := kc1.cell 4
          have y0_5 := kc1.cell 5
          have y0_6 := kc1.cell 6
          have y0_7 := kc1.cell 7
          have y0_8 := kc1.cell 8
          have y0_9 := kc1.cell 9
          have y0_10 := kc1.cell 10
          have y0_11 := kc1.cell 11
          simp only [lgA, lgZ, lgS] at y0_0 y0_1 y0_2 y0_3 y0_4 y0_5 y0_6 y0_7 y0_8 y0_9 y0_10 y0_11
          go_wp2_with fail
          refine (hc1 _ (hb1)).mono ?_
          rintro en w2 ⟨rfl, hb2⟩
          have hB2 := hB1.trans (hb2.mono hB1.size)
          have kb2 := kb.below ((hb1).trans (hb2.mono (hb1).size)) kb.lt
          have x1_0 := kb2.cell 0
          have x1_1 := kb2.cell 1
          have x1_2 := kb2.cell 2
          have x1_3 := kb2.cell 3
          have x1_4 := kb2.cell 4
          have x1_5 := kb2.cell 5
          have x1_6 := kb2.cell 6
          have x1_7 := kb2.cell 7
          have x1_8 := kb2.cell 8
          have x1_9 := kb2.cell 9
          have x1_10 := kb2.cell 10
          have x1_11 := kb2.cell 11
          simp only [lgA, lgZ, lgS] at x1_0 x1_1 x1_2 x1_3 x1_4 x1_5 x1_6 x1_7 x1_8 x1_9 x1_10 x1_11
          have kc2 := kc.below ((hb1).trans (hb2.mono (hb1).size)) kc.lt
          have y1_0 := kc2.cell 0
          have y1_1 := kc2.cell 1
          have y1_2 := kc2.cell 2
          have y1_3 := kc2.cell 3
          have y1_4 := kc2.cell 4
          have y1_5 := kc2.cell 5
          have y1_6 := kc2.cell 6
          have y1_7 := kc2.cell 7
          have y1_8 := kc2.cell 8
          have y1_9 := kc2.cell 9
          have y1_10 := kc2.cell 10
          have y1_11 := kc2.cell 11
          simp only [lgA, lgZ, lgS] at y1_0 y1_1 y1_2 y1_3 y1_4 y1_5 y1_6 y1_7 y1_8 y1_9 y1_10 y1_11
          go_wp2_with fail
          refine (hc2 _ ((hb1).trans (hb2.mono (hb1).size))).mono ?_
          rintro en w3 ⟨rfl, hb3⟩
          have hB3 := hB2.trans (hb3.mono hB2.size)
          have kb3 := kb.below (((hb1).trans (hb2.mono (hb1).size)).trans (hb3.mono ((hb1).trans (hb2.mono (hb1).size)).size)) kb.lt
          have x2_0 := kb3.cell 0
          have x2_1 := kb3.cell 1
          have x2_2 := kb3.cell 2
          have x2_3 := kb3.cell 3
          have x2_4 := kb3.cell 4
          have x2_5 := kb3.cell 5
          have x2_6 := kb3.cell 6
          have x2_7 := kb3.cell 7
          have x2_8 := kb3.cell 8
          have x2_9 := kb3.cell 9
          have x2_10 := kb3.cell 10
          have x2_11 := kb3.cell 11
          simp only [lgA, lgZ, lgS] at x2_0 x2_1 x2_2 x2_3 x2_4 x2_5 x2_6 x2_7 x2_8 x2_9 x2_10 x2_11
          have kc3 := kc.below (((hb1).trans (hb2.mono (hb1).size)).trans (hb3.mono ((hb1).trans (hb2.mono (hb1).size)).size)) kc.lt
          have y2_0 := kc3.cell 0
          have y2_1 := kc3.cell 1
          have y2_2 := kc3.cell 2
          have y2_3 := kc3.cell 3
          have y2_4 := kc3.cell 4
          have y2_5 := kc3.cell 5
          have y2_6 := kc3.cell 6
          have y2_7 := kc3.cell 7
          have y2_8 := kc3.cell 8
          have y2_9 := kc3.cell 9
          have y2_10 := kc3.cell 10
          have y2_11 := kc3.cell 11
          simp only [lgA, lgZ, lgS] at y2_0 y2_1 y2_2 y2_3 y2_4 y2_5 y2_6 y2_7 y2_8 y2_9 y2_10 y2_11
          go_wp2_with fail
          refine (hc3 _ (((hb1).trans (hb2.mono (hb1).size)).trans (hb3.mono ((hb1).trans (hb2.mono (hb1).size)).size))).mono ?_
          rintro en w4 ⟨rfl, hb4⟩
          have hB4 := hB3.trans (hb4.mono hB3.size)
          go_wp2
          go_ret
          exact ⟨rfl, hB4⟩
        | false =>
          simp only [Bool.or_true, Bool.true_or, Bool.or_false, Bool.false_or, Bool.and_true, Bool.true_and, Bool.and_false, Bool.false_and] at hR
          subst hR
          go_enter Tryd.func15, Tryd.ntmps15
          go_wp2_with fail
          rw [← hV]
          clear hV
          refine (hc0 _ (Below.refl _ _)).mono ?_
          rintro en w1 ⟨rfl, hb1⟩
          have hB1 := hB.trans (hb1.mono hB.size)
          have kb1 := kb.below (hb1) kb.lt
          have x0_0 := kb1.cell 0
          have x0_1 := kb1.cell 1
          have x0_2 := kb1.cell 2
          have x0_3 := kb1.cell 3
          have x0_4 := kb1.cell 4
          have x0_5 := kb1.cell 5
          have x0_6 := kb1.cell 6
          have x0_7 := kb1.cell 7
          have x0_8 := kb1.cell 8
          have x0_9 := kb1.cell 9
          have x0_10 := kb1.cell 10
          have x0_11 := kb1.cell 11
          simp only [lgA, lgZ, lgS] at x0_0 x0_1 x0_2 x0_3 x0_4 x0_5 x0_6 x0_7 x0_8 x0_9 x0_10 x0_11
          have kc1 := kc.below (hb1) kc.lt
          have y0_0 := kc1.cell 0
          have y0_1 := kc1.cell 1
          have y0_2 := kc1.cell 2
          have y0_3 := kc1.cell 3
          have y0_4 := kc1.cell 4
          have y0_5 := kc1.cell 5
          have y0_6 := kc1.cell 6
          have y0_7 := kc1.cell 7
          have y0_8 := kc1.cell 8
          have y0_9 := kc1.cell 9
          have y0_10 := kc1.cell 10
          have y0_11 := kc1.cell 11
          simp only [lgA, lgZ, lgS] at y0_0 y0_1 y0_2 y0_3 y0_4 y0_5 y0_6 y0_7 y0_8 y0_9 y0_10 y0_11
          go_wp2_with fail
          refine (hc1 _ (hb1)).mono ?_
          rintro en w2 ⟨rfl, hb2⟩
          have hB2 := hB1.trans (hb2.mono hB1.size)
          have kb2 := kb.below ((hb1).trans (hb2.mono (hb1).size)) kb.lt
          have x1_0 := kb2.cell 0
          have x1_1 := kb2.cell 1
          have x1_2 := kb2.cell 2
          have x1_3 := kb2.cell 3
          have x1_4 := kb2.cell 4
          have x1_5 := kb2.cell 5
          have x1_6 := kb2.cell 6
          have x1_7 := kb2.cell 7
          have x1_8 := kb2.cell 8
          have x1_9 := kb2.cell 9
          have x1_10 := kb2.cell 10
          have x1_11 := kb2.cell 11
          simp only [lgA, lgZ, lgS] at x1_0 x1_1 x1_2 x1_3 x1_4 x1_5 x1_6 x1_7 x1_8 x1_9 x1_10 x1_11
          have kc2 := kc.below ((hb1).trans (hb2.mono (hb1).size)) kc.lt
          have y1_0 := kc2.cell 0
          have y1_1 := kc2.cell 1
          have y1_2 := kc2.cell 2
          have y1_3 := kc2.cell 3
          have y1_4 := kc2.cell 4
          have y1_5 := kc2.cell 5
          have y1_6 := kc2.cell 6
          have y1_7 := kc2.cell 7
          have y1_8 := kc2.cell 8
          have y1_9 := kc2.cell 9
          have y1_10 := kc2.cell 10
          have y1_11 := kc2.cell 11
          simp only [lgA, lgZ, lgS] at y1_0 y1_1 y1_2 y1_3 y1_4 y1_5 y1_6 y1_7 y1_8 y1_9 y1_10 y1_11
          go_wp2_with fail
          refine (hc2 _ ((hb1).trans (hb2.mono (hb1).size))).mono ?_
          rintro en w3 ⟨rfl, hb3⟩
          have hB3 := hB2.trans (hb3.mono hB2.size)
          have kb3 := kb.below (((hb1).trans (hb2.mono (hb1).size)).trans (hb3.mono ((hb1).trans (hb2.mono (hb1).size)).size)) kb.lt
          have x2_0 := kb3.cell 0
          have x2_1 := kb3.cell 1
          have x2_2 := kb3.cell 2
          have x2_3 := kb3.cell 3
          have x2_4 := kb3.cell 4
          have x2_5 := kb3.cell 5
          have x2_6 := kb3.cell 6
          have x2_7 := kb3.cell 7
          have x2_8 := kb3.cell 8
          have x2_9 := kb3.cell 9
          have x2_10 := kb3.cell 10
          have x2_11 := kb3.cell 11
          simp only [lgA, lgZ, lgS] at x2_0 x2_1 x2_2 x2_3 x2_4 x2_5 x2_6 x2_7 x2_8 x2_9 x2_10 x2_11
          have kc3 := kc.below (((hb1).trans (hb2.mono (hb1).size)).trans (hb3.mono ((hb1).trans (hb2.mono (hb1).size)).size)) kc.lt
          have y2_0 := kc3.cell 0
          have y2_1 := kc3.cell 1
          have y2_2 := kc3.cell 2
          have y2_3 := kc3.cell 3
          have y2_4 := kc3.cell 4
          have y2_5 := kc3.cell 5
          have y2_6 := kc3.cell 6
          have y2_7 := kc3.cell 7
          have y2_8 := kc3.cell 8
          have y2_9 := kc3.cell 9
          have y2_10 := kc3.cell 10
          have y2_11 := kc3.cell 11
          simp only [lgA, lgZ, lgS] at y2_0 y2_1 y2_2 y2_3 y2_4 y2_5 y2_6 y2_7 y2_8 y2_9 y2_10 y2_11
          go_wp2_with fail
          refine (hc3 _ (((hb1).trans (hb2.mono (hb1).size)).trans (hb3.mono ((hb1).trans (hb2.mono (hb1).size)).size))).mono ?_
          rintro en w4 ⟨rfl, hb4⟩
          have hB4 := hB3.trans (hb4.mono hB3.size)
          go_wp2
          go_ret
          exact ⟨rfl, hB4⟩
      | false =>
        simp only [Bool.or_true, Bool.true_or, Bool.or_false, Bool.false_or, Bool.and_true, Bool.true_and, Bool.and_false, Bool.false_and] at hR
        subst hR
        go_enter Tryd.func15, Tryd.ntmps15
        go_wp2_with fail
        rw [← hV]
        clear hV
        refine (hc0 _ (Below.refl _ _)).mono ?_
        rintro en w1 ⟨rfl, hb1⟩
        have hB1 := hB.trans (hb1.mono hB.size)
        have kb1 := kb.below (hb1) kb.lt
        have x0_0 := kb1.cell 0
        have x0_1 := kb1.cell 1
        have x0_2 := kb1.cell 2
        have x0_3 := kb1.cell 3
        have x0_4 := kb1.cell 4
        have x0_5 := kb1.cell 5
        have x0_6 := kb1.cell 6
        have x0_7 := kb1.cell 7
        have x0_8 := kb1.cell 8
        have x0_9 := kb1.cell 9
        have x0_10 := kb1.cell 10
        have x0_11 := kb1.cell 11
        simp only [lgA, lgZ, lgS] at x0_0 x0_1 x0_2 x0_3 x0_4 x0_5 x0_6 x0_7 x0_8 x0_9 x0_10 x0_11
        have kc1 := kc.below (hb1) kc.lt
        have y0_0 := kc1.cell 0
        have y0_1 := kc1.cell 1
        have y0_2 := kc1.cell 2
        have y0_3 := kc1.cell 3
        have y0_4 := kc1.cell 4
        have y0_5 := kc1.cell 5
        have y0_6 := kc1.cell 6
        have y0_7 := kc1.cell 7
        have y0_8 := kc1.cell 8
        have y0_9 := kc1.cell 9
        have y0_10 := kc1.cell 10
        have y0_11 := kc1.cell 11
        simp only [lgA, lgZ, lgS] at y0_0 y0_1 y0_2 y0_3 y0_4 y0_5 y0_6 y0_7 y0_8 y0_9 y0_10 y0_11
        go_wp2_with fail
        refine (hc1 _ (hb1)).mono ?_
        rintro en w2 ⟨rfl, hb2⟩
        have hB2 := hB1.trans (hb2.mono hB1.size)
        have kb2 := kb.below ((hb1).trans (hb2.mono (hb1).size)) kb.lt
        have x1_0 := kb2.cell 0
        have x1_1 := kb2.cell 1
        have x1_2 := kb2.cell 2
        have x1_3 := kb2.cell 3
        have x1_4 := kb2.cell 4
        have x1_5 := kb2.cell 5
        have x1_6 := kb2.cell 6
        have x1_7 := kb2.cell 7
        have x1_8 := kb2.cell 8
        have x1_9 := kb2.cell 9
        have x1_10 := kb2.cell 10
        have x1_11 := kb2.cell 11
        simp only [lgA, lgZ, lgS] at x1_0 x1_1 x1_2 x1_3 x1_4 x1_5 x1_6 x1_7 x1_8 x1_9 x1_10 x1_11
        have kc2 := kc.below ((hb1).trans (hb2.mono (hb1).size)) kc.lt
        have y1_0 := kc2.cell 0
        have y1_1 := kc2.cell 1
        have y1_2 := kc2.cell 2
        have y1_3 := kc2.cell 3
        have y1_4 := kc2.cell 4
        have y1_5 := kc2.cell 5
        have y1_6 := kc2.cell 6
        have y1_7 := kc2.cell 7
        have y1_8 := kc2.cell 8
        have y1_9 := kc2.cell 9
        have y1_10 := kc2.cell 10
        have y1_11 := kc2.cell 11
        simp only [lgA, lgZ, lgS] at y1_0 y1_1 y1_2 y1_3 y1_4 y1_5 y1_6 y1_7 y1_8 y1_9 y1_10 y1_11
        go_wp2_with fail
        refine (hc2 _ ((hb1).trans (hb2.mono (hb1).size))).mono ?_
        rintro en w3 ⟨rfl, hb3⟩
        have hB3 := hB2.trans (hb3.mono hB2.size)
        go_wp2
        go_ret
        exact ⟨rfl, hB3⟩
    | false =>
      simp only [Bool.or_true, Bool.true_or, Bool.or_false, Bool.false_or, Bool.and_true, Bool.true_and, Bool.and_false, Bool.false_and] at hR
      subst hR
      go_enter Tryd.func15, Tryd.ntmps15
      go_wp2_with fail
      rw [← hV]
      clear hV
      refine (hc0 _ (Below.refl _ _)).mono ?_
      rintro en w1 ⟨rfl, hb1⟩
      have hB1 := hB.trans (hb1.mono hB.size)
      have kb1 := kb.below (hb1) kb.lt
      have x0_0 := kb1.cell 0
      have x0_1 := kb1.cell 1
      have x0_2 := kb1.cell 2
      have x0_3 := kb1.cell 3
      have x0_4 := kb1.cell 4
      have x0_5 := kb1.cell 5
      have x0_6 := kb1.cell 6
      have x0_7 := kb1.cell 7
      have x0_8 := kb1.cell 8
      have x0_9 := kb1.cell 9
      have x0_10 := kb1.cell 10
      have x0_11 := kb1.cell 11
      simp only [lgA, lgZ, lgS] at x0_0 x0_1 x0_2 x0_3 x0_4 x0_5 x0_6 x0_7 x0_8 x0_9 x0_10 x0_11
      have kc1 := kc.below (hb1) kc.lt
      have y0_0 := kc1.cell 0
      have y0_1 := kc1.cell 1
      have y0_2 := kc1.cell 2
      have y0_3 := kc1.cell 3
      have y0_4 := kc1.cell 4
      have y0_5 := kc1.cell 5
      have y0_6 := kc1.cell 6
      have y0_7 := kc1.cell 7
      have y0_8 := kc1.cell 8
      have y0_9 := kc1.cell 9
      have y0_10 := kc1.cell 10
      have y0_11 := kc1.cell 11
      simp only [lgA, lgZ, lgS] at y0_0 y0_1 y0_2 y0_3 y0_4 y0_5 y0_6 y0_7 y0_8 y0_9 y0_10 y0_11
      go_wp2_with fail
      refine (hc1 _ (hb1)).mono ?_
      rintro en w2 ⟨rfl, hb2⟩
      have hB2 := hB1.trans (hb2.mono hB1.size)
      go_wp2
      go_ret
      exact ⟨rfl, hB2⟩
  | false =>
    simp only [Bool.or_true, Bool.true_or, Bool.or_false, Bool.false_or, Bool.and_true, Bool.true_and, Bool.and_false, Bool.false_and] at hR
    subst hR
    go_enter Tryd.func15, Tryd.ntmps15
    go_wp2_with fail
    rw [← hV]
    clear hV
    refine (hc0 _ (Below.refl _ _)).mono ?_
    rintro en w1 ⟨rfl, hb1⟩
    have hB1 := hB.trans (hb1.mono hB.size)
    go_wp2
    go_ret
    exact ⟨rfl, hB1⟩
set_option maxRecDepth 100000 in
set_option maxHeartbeats 8000000 in
theorem rmtwin_any (ag0 : Bool) (aX0 : Option Addr) (an0 ac0 : Nat) (ae0 : Int) (ag1 : Bool) (aX1 : Option Addr) (an1 ac1 : Nat) (ae1 : Int) (ag2 : Bool) (aX2 : Option Addr) (an2 ac2 : Nat) (ae2 : Int) (ag3 : Bool) (aX3 : Option Addr) (an3 ac3 : Nat) (ae3 : Int) (m : Ms) (hsm : smM m) (w : World) (ra : RdM w w.heap.size ag0 aX0 an0 ac0 ae0 ag1 aX1 an1 ac1 ae1 ag2 aX2 an2 ac2 ae2 ag3 aX3 an3 ac3 ae3 m) :
    Calls Tryd.prog 31 #[.agg #[.bool ag0, .slice aX0 an0 ac0, .int .i64 ae0, .bool ag1, .slice aX1 an1 ac1, .int .i64 ae1, .bool ag2, .slice aX2 an2 ac2, .int .i64 ae2, .bool ag3, .slice aX3 an3 ac3, .int .i64 ae3]] w (TwM w ag0 aX0 an0 ac0 ae0 ag1 aX1 an1 ac1 ae1 ag2 aX2 an2 ac2 ae2 ag3 aX3 an3 ac3 ae3 m) := by
  obtain ⟨V, hV⟩ : ∃ V, V = (w.alloc (.cells #[.bool ag0, .slice aX0 an0 ac0, .int .i64 ae0, .bool ag1, .slice aX1 an1 ac1, .int .i64 ae1, .bool ag2, .slice aX2 an2 ac2, .int .i64 ae2, .bool ag3, .slice aX3 an3 ac3, .int .i64 ae3] 27)).alloc (.cells #[.bool false, .slice none 0 0, .int .i64 0, .bool false, .slice none 0 0, .int .i64 0, .bool false, .slice none 0 0, .int .i64 0, .bool false, .slice none 0 0, .int .i64 0] 27) := ⟨_, rfl⟩
  have hB : Below w.heap.size w V := by rw [hV]; exact ((Below.refl w.heap.size w).alloc (Nat.le_refl _) _).alloc (by simp) _
  have kb : Blk V w.heap.size 27 #[.bool ag0, .slice aX0 an0 ac0, .int .i64 ae0, .bool ag1, .slice aX1 an1 ac1, .int .i64 ae1, .bool ag2, .slice aX2 an2 ac2, .int .i64 ae2, .bool ag3, .slice aX3 an3 ac3, .int .i64 ae3] := by rw [hV]; exact (Blk.new w _ _).alloc _
  have kc : Blk V (w.heap.size + 1) 27 #[.bool false, .slice none 0 0, .int .i64 0, .bool false, .slice none 0 0, .int .i64 0, .bool false, .slice none 0 0, .int .i64 0, .bool false, .slice none 0 0, .int .i64 0] := by
    have := Blk.new (w.alloc (.cells #[.bool ag0, .slice aX0 an0 ac0, .int .i64 ae0, .bool ag1, .slice aX1 an1 ac1, .int .i64 ae1, .bool ag2, .slice aX2 an2 ac2, .int .i64 ae2, .bool ag3, .slice aX3 an3 ac3, .int .i64 ae3] 27)) 27 #[.bool false, .slice none 0 0, .int .i64 0, .bool false, .slice none 0 0, .int .i64 0, .bool false, .slice none 0 0, .int .i64 0, .bool false, .slice none 0 0, .int .i64 0]
    rw [World.size_alloc] at this
    rw [hV]; exact this
  have hsV : V.heap.size = w.heap.size + 2 := by rw [hV]; simp
  have hlV : w.heap.size + 2 ≤ V.heap.size := Nat.le_of_eq hsV.symm
  clear hsV
  have SS : ∀ w', Below (w.heap.size + 1) V w' → w'.cell? ⟨w.heap.size, 0, none⟩ = some (.bool ag0) ∧ w'.cell? ⟨w.heap.size, 1, none⟩ = some (.slice aX0 an0 ac0) ∧ w'.cell? ⟨w.heap.size, 2, none⟩ = some (.int .i64 ae0) ∧ w'.cell? ⟨w.heap.size, 3, none⟩ = some (.bool ag1) ∧ w'.cell? ⟨w.heap.size, 4, none⟩ = some (.slice aX1 an1 ac1) ∧ w'.cell? ⟨w.heap.size, 5, none⟩ = some (.int .i64 ae1) ∧ w'.cell? ⟨w.heap.size, 6, none⟩ = some (.bool ag2) ∧ w'.cell? ⟨w.heap.size, 7, none⟩ = some (.slice aX2 an2 ac2) ∧ w'.cell? ⟨w.heap.size, 8, none⟩ = some (.int .i64 ae2) ∧ w'.cell? ⟨w.heap.size, 9, none⟩ = some (.bool ag3) ∧ w'.cell? ⟨w.heap.size, 10, none⟩ = some (.slice aX3 an3 ac3) ∧ w'.cell? ⟨w.heap.size, 11, none⟩ = some (.int .i64 ae3) := by
    intro w' hw
    have k5 := kb.below hw (by omega)
    have c0 := k5.cell 0
    have c1 := k5.cell 1
    have c2 := k5.cell 2
    have c3 := k5.cell 3
    have c4 := k5.cell 4
    have c5 := k5.cell 5
    have c6 := k5.cell 6
    have c7 := k5.cell 7
    have c8 := k5.cell 8
    have c9 := k5.cell 9
    have c10 := k5.cell 10
    have c11 := k5.cell 11
    simp only [lgA, lgZ, lgS] at c0 c1 c2 c3 c4 c5 c6 c7 c8 c9 c10 c11
    exact ⟨c0, c1, c2, c3, c4, c5, c6, c7, c8, c9, c10, c11⟩
  obtain ⟨ea1, ea2, ea3, ea4, ra0⟩ := ra.1
  have hc0 := fun w' (h : Below V.heap.size V w') => rdtwin_any ag0 aX0 an0 ac0 ae0 m.s.ls ea3 (by rw [← ea3]; exact hsm.1) w' ((ra0.below (hB.trans (h.mono hB.size))).more (hB.trans (h.mono hB.size)).size)
  clear ea1 ea2 ea3 ea4
  obtain ⟨ea1, ea2, ea3, ea4, ra1⟩ := ra.2.1
  have hc1 := fun w' (h : Below V.heap.size V w') => rdtwin_any ag1 aX1 an1 ac1 ae1 m.w.ls ea3 (by rw [← ea3]; exact hsm.2.1) w' ((ra1.below (hB.trans (h.mono hB.size))).more (hB.trans (h.mono hB.size)).size)
  clear ea1 ea2 ea3 ea4
  obtain ⟨ea1, ea2, ea3, ea4, ra2⟩ := ra.2.2.1
  have hc2 := fun w' (h : Below V.heap.size V w') => rdtwin_any ag2 aX2 an2 ac2 ae2 m.c.ls ea3 (by rw [← ea3]; exact hsm.2.2.1) w' ((ra2.below (hB.trans (h.mono hB.size))).more (hB.trans (h.mono hB.size)).size)
  clear ea1 ea2 ea3 ea4
  obtain ⟨ea1, ea2, ea3, ea4, ra3⟩ := ra.2.2.2
  have hc3 := fun w' (h : Below V.heap.size V w') => rdtwin_any ag3 aX3 an3 ac3 ae3 m.a.ls ea3 (by rw [← ea3]; exact hsm.2.2.2) w' ((ra3.below (hB.trans (h.mono hB.size))).more (hB.trans (h.mono hB.size)).size)
  clear ea1 ea2 ea3 ea4
  clear ra ra0 ra1 ra2 ra3 hsm
  obtain ⟨z0, z1, z2, z3, z4, z5, z6, z7, z8, z9, z10, z11⟩ := SS V (Below.refl _ _)
  have h0 : Below V.heap.size V V := Below.refl _ _
  go_enter Tryd.func31, Tryd.ntmps31
  go_wp2_with fail
  rw [← hV]
  clear hV
  go_region_held3 (fun w' => w'.cell? ⟨w.heap.size, 0, none⟩ = some (.bool ag0) ∧ w'.cell? ⟨w.heap.size, 1, none⟩ = some (.slice aX0 an0 ac0) ∧ w'.cell? ⟨w.heap.size, 2, none⟩ = some (.int .i64 ae0) ∧ w'.cell? ⟨w.heap.size, 3, none⟩ = some (.bool ag1) ∧ w'.cell? ⟨w.heap.size, 4, none⟩ = some (.slice aX1 an1 ac1) ∧ w'.cell? ⟨w.heap.size, 5, none⟩ = some (.int .i64 ae1) ∧ w'.cell? ⟨w.heap.size, 6, none⟩ = some (.bool ag2) ∧ w'.cell? ⟨w.heap.size, 7, none⟩ = some (.slice aX2 an2 ac2) ∧ w'.cell? ⟨w.heap.size, 8, none⟩ = some (.int .i64 ae2) ∧ w'.cell? ⟨w.heap.size, 9, none⟩ = some (.bool ag3) ∧ w'.cell? ⟨w.heap.size, 10, none⟩ = some (.slice aX3 an3 ac3) ∧ w'.cell? ⟨w.heap.size, 11, none⟩ = some (.int .i64 ae3)) ((refine SS _ ?_; (repeat first | with_reducible assumption | with_reducible exact Below.refl _ _ | with_reducible refine Below.drew ?_ | (with_reducible refine Below.setCell ?_ (by first | exact Nat.le_refl _ | (simp only [World.size_alloc, World.size_drew]; omega) | omega) _) | (with_reducible refine Below.alloc ?_ (by first | exact Nat.le_refl _ | (simp only [World.size_alloc, World.size_drew]; omega) | omega) _)))) (first | (go_at_call 59; (with_reducible refine (hc0 _ (by (repeat first | with_reducible assumption | with_reducible exact Below.refl _ _ | with_reducible refine Below.drew ?_ | (with_reducible refine Below.setCell ?_ (by first | exact Nat.le_refl _ | (simp only [World.size_alloc, World.size_drew]; omega) | omega) _) | (with_reducible refine Below.alloc ?_ (by first | exact Nat.le_refl _ | (simp only [World.size_alloc, World.size_drew]; omega) | omega) _)))).mono ?_); rintro en w1 ⟨X0, c0, rfl, hco0, ho0, hb0⟩; have hb0V : Below V.heap.size V w1 := Below.trans (by (repeat first | with_reducible assumption | with_reducible exact Below.refl _ _ | with_reducible refine Below.drew ?_ | (with_reducible refine Below.setCell ?_ (by first | exact Nat.le_refl _ | (simp only [World.size_alloc, World.size_drew]; omega) | omega) _) | (with_reducible refine Below.alloc ?_ (by first | exact Nat.le_refl _ | (simp only [World.size_alloc, World.size_drew]; omega) | omega) _))) (hb0.mono (by first | exact Nat.le_refl _ | (simp only [World.size_alloc, World.size_drew]; omega) | omega)); have hs0 := hb0V.size; have hw0 : Below (w.heap.size + 1) V w1 := hb0V.mono (by omega)) | (go_at_call 59; (with_reducible refine (hc1 _ (by (repeat first | with_reducible assumption | with_reducible exact Below.refl _ _ | with_reducible refine Below.drew ?_ | (with_reducible refine Below.setCell ?_ (by first | exact Nat.le_refl _ | (simp only [World.size_alloc, World.size_drew]; omega) | omega) _) | (with_reducible refine Below.alloc ?_ (by first | exact Nat.le_refl _ | (simp only [World.size_alloc, World.size_drew]; omega) | omega) _)))).mono ?_); rintro en w2 ⟨X1, c1, rfl, hco1, ho1, hb1⟩; have hb1V : Below V.heap.size V w2 := Below.trans (by (repeat first | with_reducible assumption | with_reducible exact Below.refl _ _ | with_reducible refine Below.drew ?_ | (with_reducible refine Below.setCell ?_ (by first | exact Nat.le_refl _ | (simp only [World.size_alloc, World.size_drew]; omega) | omega) _) | (with_reducible refine Below.alloc ?_ (by first | exact Nat.le_refl _ | (simp only [World.size_alloc, World.size_drew]; omega) | omega) _))) (hb1.mono (by first | exact Nat.le_refl _ | (simp only [World.size_alloc, World.size_drew]; omega) | omega)); have hs1 := hb1V.size; have hw1 : Below (w.heap.size + 1) V w2 := hb1V.mono (by omega)) | (go_at_call 59; (with_reducible refine (hc2 _ (by (repeat first | with_reducible assumption | with_reducible exact Below.refl _ _ | with_reducible refine Below.drew ?_ | (with_reducible refine Below.setCell ?_ (by first | exact Nat.le_refl _ | (simp only [World.size_alloc, World.size_drew]; omega) | omega) _) | (with_reducible refine Below.alloc ?_ (by first | exact Nat.le_refl _ | (simp only [World.size_alloc, World.size_drew]; omega) | omega) _)))).mono ?_); rintro en w3 ⟨X2, c2, rfl, hco2, ho2, hb2⟩; have hb2V : Below V.heap.size V w3 := Below.trans (by (repeat first | with_reducible assumption | with_reducible exact Below.refl _ _ | with_reducible refine Below.drew ?_ | (with_reducible refine Below.setCell ?_ (by first | exact Nat.le_refl _ | (simp only [World.size_alloc, World.size_drew]; omega) | omega) _) | (with_reducible refine Below.alloc ?_ (by first | exact Nat.le_refl _ | (simp only [World.size_alloc, World.size_drew]; omega) | omega) _))) (hb2.mono (by first | exact Nat.le_refl _ | (simp only [World.size_alloc, World.size_drew]; omega) | omega)); have hs2 := hb2V.size; have hw2 : Below (w.heap.size + 1) V w3 := hb2V.mono (by omega)) | (go_at_call 59; (with_reducible refine (hc3 _ (by (repeat first | with_reducible assumption | with_reducible exact Below.refl _ _ | with_reducible refine Below.drew ?_ | (with_reducible refine Below.setCell ?_ (by first | exact Nat.le_refl _ | (simp only [World.size_alloc, World.size_drew]; omega) | omega) _) | (with_reducible refine Below.alloc ?_ (by first | exact Nat.le_refl _ | (simp only [World.size_alloc, World.size_drew]; omega) | omega) _)))).mono ?_); rintro en w4 ⟨X3, c3, rfl, hco3, ho3, hb3⟩; have hb3V : Below V.heap.size V w4 := Below.trans (by (repeat first | with_reducible assumption | with_reducible exact Below.refl _ _ | with_reducible refine Below.drew ?_ | (with_reducible refine Below.setCell ?_ (by first | exact Nat.le_refl _ | (simp only [World.size_alloc, World.size_drew]; omega) | omega) _) | (with_reducible refine Below.alloc ?_ (by first | exact Nat.le_refl _ | (simp only [World.size_alloc, World.size_drew]; omega) | omega) _))) (hb3.mono (by first | exact Nat.le_refl _ | (simp only [World.size_alloc, World.size_drew]; omega) | omega)); have hs3 := hb3V.size; have hw3 : Below (w.heap.size + 1) V w4 := hb3V.mono (by omega); have kc4 := kc.below hb3V kc.lt; have y0 := kc4.cell 0; have y1 := kc4.cell 1; have y2 := kc4.cell 2; have y3 := kc4.cell 3; have y4 := kc4.cell 4; have y5 := kc4.cell 5; have y6 := kc4.cell 6; have y7 := kc4.cell 7; have y8 := kc4.cell 8; have y9 := kc4.cell 9; have y10 := kc4.cell 10; have y11 := kc4.cell 11; simp only [lgA, lgZ, lgS] at y0 y1 y2 y3 y4 y5 y6 y7 y8 y9 y10 y11; have yf0 := kc4.frozen 0; have yf1 := kc4.frozen 1; have yf2 := kc4.frozen 2; have yf3 := kc4.frozen 3; have yf4 := kc4.frozen 4; have yf5 := kc4.frozen 5; have yf6 := kc4.frozen 6; have yf7 := kc4.frozen 7; have yf8 := kc4.frozen 8; have yf9 := kc4.frozen 9; have yf10 := kc4.frozen 10; have yf11 := kc4.frozen 11))
  clear z0 z1 z2 z3 z4 z5 z6 z7 z8 z9 z10 z11 hc0 hc1 hc2 hc3 SS kb
  have B5 : Blk ((((((((((((w4.setCell ⟨w.heap.size + 1, 0, none⟩ (.bool ag0)).setCell ⟨w.heap.size + 1, 1, none⟩ (.slice X0 an0 c0)).setCell ⟨w.heap.size + 1, 2, none⟩ (.int .i64 ae0)).setCell ⟨w.heap.size + 1, 3, none⟩ (.bool ag1)).setCell ⟨w.heap.size + 1, 4, none⟩ (.slice X1 an1 c1)).setCell ⟨w.heap.size + 1, 5, none⟩ (.int .i64 ae1)).setCell ⟨w.heap.size + 1, 6, none⟩ (.bool ag2)).setCell ⟨w.heap.size + 1, 7, none⟩ (.slice X2 an2 c2)).setCell ⟨w.heap.size + 1, 8, none⟩ (.int .i64 ae2)).setCell ⟨w.heap.size + 1, 9, none⟩ (.bool ag3)).setCell ⟨w.heap.size + 1, 10, none⟩ (.slice X3 an3 c3)).setCell ⟨w.heap.size + 1, 11, none⟩ (.int .i64 ae3)) (w.heap.size + 1) 27 #[.bool ag0, .slice X0 an0 c0, .int .i64 ae0, .bool ag1, .slice X1 an1 c1, .int .i64 ae1, .bool ag2, .slice X2 an2 c2, .int .i64 ae2, .bool ag3, .slice X3 an3 c3, .int .i64 ae3] := blk12 kc4 (.bool ag0) (.slice X0 an0 c0) (.int .i64 ae0) (.bool ag1) (.slice X1 an1 c1) (.int .i64 ae1) (.bool ag2) (.slice X2 an2 c2) (.int .i64 ae2) (.bool ag3) (.slice X3 an3 c3) (.int .i64 ae3)
  have q0 := B5.cell 0
  have q1 := B5.cell 1
  have q2 := B5.cell 2
  have q3 := B5.cell 3
  have q4 := B5.cell 4
  have q5 := B5.cell 5
  have q6 := B5.cell 6
  have q7 := B5.cell 7
  have q8 := B5.cell 8
  have q9 := B5.cell 9
  have q10 := B5.cell 10
  have q11 := B5.cell 11
  simp only [lgA, lgZ, lgS] at q0 q1 q2 q3 q4 q5 q6 q7 q8 q9 q10 q11
  have hb9 : Below w.heap.size w w4 := hB.trans (hb3V.mono hB.size)
  have hb10 : Below w.heap.size w ((((((((((((w4.setCell ⟨w.heap.size + 1, 0, none⟩ (.bool ag0)).setCell ⟨w.heap.size + 1, 1, none⟩ (.slice X0 an0 c0)).setCell ⟨w.heap.size + 1, 2, none⟩ (.int .i64 ae0)).setCell ⟨w.heap.size + 1, 3, none⟩ (.bool ag1)).setCell ⟨w.heap.size + 1, 4, none⟩ (.slice X1 an1 c1)).setCell ⟨w.heap.size + 1, 5, none⟩ (.int .i64 ae1)).setCell ⟨w.heap.size + 1, 6, none⟩ (.bool ag2)).setCell ⟨w.heap.size + 1, 7, none⟩ (.slice X2 an2 c2)).setCell ⟨w.heap.size + 1, 8, none⟩ (.int .i64 ae2)).setCell ⟨w.heap.size + 1, 9, none⟩ (.bool ag3)).setCell ⟨w.heap.size + 1, 10, none⟩ (.slice X3 an3 c3)).setCell ⟨w.heap.size + 1, 11, none⟩ (.int .i64 ae3)) := Below.setCell (p := ⟨w.heap.size + 1, 11, none⟩) (Below.setCell (p := ⟨w.heap.size + 1, 10, none⟩) (Below.setCell (p := ⟨w.heap.size + 1, 9, none⟩) (Below.setCell (p := ⟨w.heap.size + 1, 8, none⟩) (Below.setCell (p := ⟨w.heap.size + 1, 7, none⟩) (Below.setCell (p := ⟨w.heap.size + 1, 6, none⟩) (Below.setCell (p := ⟨w.heap.size + 1, 5, none⟩) (Below.setCell (p := ⟨w.heap.size + 1, 4, none⟩) (Below.setCell (p := ⟨w.heap.size + 1, 3, none⟩) (Below.setCell (p := ⟨w.heap.size + 1, 2, none⟩) (Below.setCell (p := ⟨w.heap.size + 1, 1, none⟩) (Below.setCell (p := ⟨w.heap.size + 1, 0, none⟩) (hb9) (by simp) _) (by simp) _) (by simp) _) (by simp) _) (by simp) _) (by simp) _) (by simp) _) (by simp) _) (by simp) _) (by simp) _) (by simp) _) (by simp) _
  have hof : ∀ {n : Nat} {X : Option Addr} {xs : List Value}, OwnR w4 V.heap.size 71 X n xs → OwnR ((((((((((((w4.setCell ⟨w.heap.size + 1, 0, none⟩ (.bool ag0)).setCell ⟨w.heap.size + 1, 1, none⟩ (.slice X0 an0 c0)).setCell ⟨w.heap.size + 1, 2, none⟩ (.int .i64 ae0)).setCell ⟨w.heap.size + 1, 3, none⟩ (.bool ag1)).setCell ⟨w.heap.size + 1, 4, none⟩ (.slice X1 an1 c1)).setCell ⟨w.heap.size + 1, 5, none⟩ (.int .i64 ae1)).setCell ⟨w.heap.size + 1, 6, none⟩ (.bool ag2)).setCell ⟨w.heap.size + 1, 7, none⟩ (.slice X2 an2 c2)).setCell ⟨w.heap.size + 1, 8, none⟩ (.int .i64 ae2)).setCell ⟨w.heap.size + 1, 9, none⟩ (.bool ag3)).setCell ⟨w.heap.size + 1, 10, none⟩ (.slice X3 an3 c3)).setCell ⟨w.heap.size + 1, 11, none⟩ (.int .i64 ae3)) w.heap.size 71 X n xs := fun h => OwnR.base_le (OwnR.far (p := ⟨w.heap.size + 1, 11, none⟩) (OwnR.far (p := ⟨w.heap.size + 1, 10, none⟩) (OwnR.far (p := ⟨w.heap.size + 1, 9, none⟩) (OwnR.far (p := ⟨w.heap.size + 1, 8, none⟩) (OwnR.far (p := ⟨w.heap.size + 1, 7, none⟩) (OwnR.far (p := ⟨w.heap.size + 1, 6, none⟩) (OwnR.far (p := ⟨w.heap.size + 1, 5, none⟩) (OwnR.far (p := ⟨w.heap.size + 1, 4, none⟩) (OwnR.far (p := ⟨w.heap.size + 1, 3, none⟩) (OwnR.far (p := ⟨w.heap.size + 1, 2, none⟩) (OwnR.far (p := ⟨w.heap.size + 1, 1, none⟩) (OwnR.far (p := ⟨w.heap.size + 1, 0, none⟩) (h) (by simp; omega) _) (by simp; omega) _) (by simp; omega) _) (by simp; omega) _) (by simp; omega) _) (by simp; omega) _) (by simp; omega) _) (by simp; omega) _) (by simp; omega) _) (by simp; omega) _) (by simp; omega) _) (by simp; omega) _) (by omega)
  have o3 := hof (ho3.base_le hs2)
  have o2 := hof ((ho2.below hb3).base_le hs1)
  have o1 := hof (((ho1.below hb2).below hb3).base_le hs0)
  have o0 := hof (((ho0.below hb1).below hb2).below hb3)
  clear hof B5 y0 yf0 y1 yf1 y2 yf2 y3 yf3 y4 yf4 y5 yf5 y6 yf6 y7 yf7 y8 yf8 y9 yf9 y10 yf10 y11 yf11 kc kc4 hb0 hb1 hb2 hb3 hb0V hb1V hb2V hb3V hw0 hw1 hw2 hw3
  go_wp2
  refine ⟨rfl, .agg #[.bool ag0, .slice X0 an0 c0, .int .i64 ae0, .bool ag1, .slice X1 an1 c1, .int .i64 ae1, .bool ag2, .slice X2 an2 c2, .int .i64 ae2, .bool ag3, .slice X3 an3 c3, .int .i64 ae3], ?_, X0, c0, X1, c1, X2, c2, X3, c3, rfl, ⟨hco0, o0⟩, ⟨hco1, o1⟩, ⟨hco2, o2⟩, ⟨hco3, o3⟩, hb10⟩
  simp [results, Tryd.f31, go_sem, q0, q1, q2, q3, q4, q5, q6, q7, q8, q9, q10, q11]
end Go.Proofs.YtdmjdpaehnhdoaaDoor
