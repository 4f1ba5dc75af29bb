/- Mass: masses: what they read as; the iterator as a contract | Mass: whether two masses are the same | Mass: copies of masses | Mass: the reference's masses: great ones, the same ones, copies -/
import Derived.Shelf.Abstract
import Derived.Test.YtjmhefkmpfkpbaaMC
import Derived.Test.YtjmhefkmpfkpbaaKA
namespace Go.Proofs.Ytjmhefkmpfkpbaa
open Go.Shelf Go.ChangeShapes Go.WideShapes Go.ChangeAt Go.RowKit
set_option linter.unusedSimpArgs false
set_option linter.unusedVariables false
structure Ms where
  s : Dy
  w : Dy
  c : Dy
  a : Dy
deriving DecidableEq
/-- A dyad by value, as it reads. -/
def RdD (w : World) (B : Nat) (g : Bool) (X : Option Addr) (n c : Nat) (e : Int) (d : Dy) : Prop := d.neg = g ∧ d.ex = e ∧ d.ls.length = n ∧ n ≤ c ∧ Reads w B 1 X n (ints .u32 d.ls)
theorem RdD.below {w w' : World} {B B' : Nat} {g : Bool} {X : Option Addr} {n c : Nat} {e : Int} {d : Dy} (h : RdD w B g X n c e d) (hb : Below B w w') (hB : B ≤ B') : RdD w' B' g X n c e d := ⟨h.1, h.2.1, h.2.2.1, h.2.2.2.1, (h.2.2.2.2.below hb).more hB⟩
/-- Limbs of bounded number. -/
def smM (m : Ms) : Prop := m.s.ls.length ≤ 100000 ∧ m.w.ls.length ≤ 100000 ∧ m.c.ls.length ≤ 100000 ∧ m.a.ls.length ≤ 100000
def RdM (w : World) (B : Nat) (ag0 : Bool) (aX0 : Option Addr) (an0 ac0 : Nat) (ae0 : Int) (ag1 : Bool) (aX1 : Option Addr) (an1 ac1 : Nat) (ae1 : Int) (ag2 : Bool) (aX2 : Option Addr) (an2 ac2 : Nat) (ae2 : Int) (ag3 : Bool) (aX3 : Option Addr) (an3 ac3 : Nat) (ae3 : Int) (m : Ms) : Prop :=
  RdD w B ag0 aX0 an0 ac0 ae0 m.s ∧ RdD w B ag1 aX1 an1 ac1 ae1 m.w ∧ RdD w B ag2 aX2 an2 ac2 ae2 m.c ∧ RdD w B ag3 aX3 an3 ac3 ae3 m.a
theorem RdM.below {w w' : World} {B B' : Nat} {ag0 : Bool} {aX0 : Option Addr} {an0 ac0 : Nat} {ae0 : Int} {ag1 : Bool} {aX1 : Option Addr} {an1 ac1 : Nat} {ae1 : Int} {ag2 : Bool} {aX2 : Option Addr} {an2 ac2 : Nat} {ae2 : Int} {ag3 : Bool} {aX3 : Option Addr} {an3 ac3 : Nat} {ae3 : Int} {m : Ms} (h : RdM w B ag0 aX0 an0 ac0 ae0 ag1 aX1 an1 ac1 ae1 ag2 aX2 an2 ac2 ae2 ag3 aX3 an3 ac3 ae3 m) (hb : Below B w w') (hB : B ≤ B') : RdM w' B' ag0 aX0 an0 ac0 ae0 ag1 aX1 an1 ac1 ae1 ag2 aX2 an2 ac2 ae2 ag3 aX3 an3 ac3 ae3 m := ⟨h.1.below hb hB, h.2.1.below hb hB, h.2.2.1.below hb hB, h.2.2.2.below hb hB⟩
theorem parts_seq (n g1 g2 ga gb : Nat) (hn : 1 ≤ n) (w0 : World) (h1 : w0.cell? ⟨g1, 0, none⟩ = some (.pointer (some ⟨ga, 0, none⟩))) (h2 : w0.cell? ⟨g2, 0, none⟩ = some (.pointer (some ⟨gb, 0, none⟩))) :
    SeqStopsK Fence.wide n Try.prog 84 #[.pointer (some ⟨g1, 0, none⟩), .pointer (some ⟨g2, 0, none⟩)] (encM ga gb) (KpM g1 g2) (fun ys => ys = [p0, p1, p2, p3]) (fun _ => True) 4 w0 := by
  intro l J Jx W hB hJ hJx hY h0
  have l1 := World.block_lt_of_cell? w0 _ h1
  have l2 := World.block_lt_of_cell? w0 _ h2
  exact parts_in n l g1 g2 ga gb hn J Jx W hY ⟨(hB.cell (p := ⟨g1, 0, none⟩) l1).trans h1, (hB.cell (p := ⟨g2, 0, none⟩) l2).trans h2⟩ (fun s A h => hJ s A _ none h ⟨rfl, rfl, rfl, Nat.le_refl _, fun _ _ _ => rfl⟩ (fun r e => by cases e)) h0
theorem parts_any (a b : Addr) (w : World) : Calls Try.prog 56 #[.pointer (some a), .pointer (some b)] w fun en w' => en = .returned (.func (.func 84) #[] #[.pointer (some ⟨w.heap.size, 0, none⟩), .pointer (some ⟨w.heap.size + 1, 0, none⟩)]) ∧ w' = (w.alloc (.cells #[.pointer (some a)] 99)).alloc (.cells #[.pointer (some b)] 99) := by
  go_enter Try.func56, Try.ntmps56
  go_wp2
  go_ret
  exact ⟨rfl, rfl⟩
theorem kpM_b {g1 g2 : Nat} {w : World} (h1 : g1 < w.heap.size) (h2 : g2 < w.heap.size) (W : World) (l : Nat) (o o' : Obj) (hl : w.heap.size ≤ l) (ho : W.heap[l]? = some o) (hc : o.isCells = false) (hw : o.isWalk = false) : KpM g1 g2 W (W.putObj l o') :=
  ⟨World.cell?_of_block ((grownBy_putObj' W l o').block g1 (by have := (Array.getElem?_eq_some_iff.1 ho).1; omega) (fun e => by injection e; omega)), World.cell?_of_block ((grownBy_putObj' W l o').block g2 (by have := (Array.getElem?_eq_some_iff.1 ho).1; omega) (fun e => by injection e; omega))⟩
theorem blk_own {β : Type} (g : Nat) (t : TypeId) (cs : β → Array Value) : Own (fun (s : β) W => Blk W g t (cs s)) := fun s A B row hs hg hr => by
  refine Blk.grown hs hg (fun e => ?_)
  obtain ⟨o, ho, hc⟩ := hr g e.symm
  unfold Blk at hs
  rw [hs] at ho
  injection ho with ho
  subst ho
  cases hc
end Go.Proofs.Ytjmhefkmpfkpbaa
namespace Go.Proofs.Ytjmhefkmpfkpbaa
open Go.Shelf Go.ChangeShapes Go.WideShapes Go.ChangeAt Go.RowKit
set_option linter.unusedSimpArgs false
set_option linter.unusedVariables false
/-- Part k of a mass. -/
def prt (m : Ms) : Nat → Dy
  | 0 => m.s
  | 1 => m.w
  | 2 => m.c
  | _ => m.a
theorem ms_eq {m k : Ms} (h : ∀ i, i < 4 → prt m i = prt k i) : m = k := by
  cases m; cases k
  have h0 := h 0 (by omega)
  have h1 := h 1 (by omega)
  have h2 := h 2 (by omega)
  have h3 := h 3 (by omega)
  simp only [prt] at h0 h1 h2 h3
  rw [h0, h1, h2, h3]
attribute [local go_sem] Oper.semAt_some
set_option maxRecDepth 100000 in
set_option maxHeartbeats 8000000 in
theorem msame_any (ag0 : Bool) (aX0 : Option Addr) (an0 ac0 : Nat) (ae0 : Int) (ag1 : Bool) (aX1 : Option Addr) (an1 ac1 : Nat) (ae1 : Int) (ag2 : Bool) (aX2 : Option Addr) (an2 ac2 : Nat) (ae2 : Int) (ag3 : Bool) (aX3 : Option Addr) (an3 ac3 : Nat) (ae3 : Int) (bg0 : Bool) (bX0 : Option Addr) (bn0 bc0 : Nat) (be0 : Int) (bg1 : Bool) (bX1 : Option Addr) (bn1 bc1 : Nat) (be1 : Int) (bg2 : Bool) (bX2 : Option Addr) (bn2 bc2 : Nat) (be2 : Int) (bg3 : Bool) (bX3 : Option Addr) (bn3 bc3 : Nat) (be3 : Int) (m k : Ms) (hsm : smM m) (hsk : smM k) (w : World) (ra : RdM w w.heap.size ag0 aX0 an0 ac0 ae0 ag1 aX1 an1 ac1 ae1 ag2 aX2 an2 ac2 ae2 ag3 aX3 an3 ac3 ae3 m) (rb : RdM w w.heap.size bg0 bX0 bn0 bc0 be0 bg1 bX1 bn1 bc1 be1 bg2 bX2 bn2 bc2 be2 bg3 bX3 bn3 bc3 be3 k) (R : Bool) (hR : decide (m = k) = R) :
    Calls Try.prog 27 #[.agg #[.bool ag0, .slice aX0 an0 ac0, .int .i64 ae0, .bool ag1, .slice aX1 an1 ac1, .int .i64 ae1, .bool ag2, .slice aX2 an2 ac2, .int .i64 ae2, .bool ag3, .slice aX3 an3 ac3, .int .i64 ae3], .agg #[.bool bg0, .slice bX0 bn0 bc0, .int .i64 be0, .bool bg1, .slice bX1 bn1 bc1, .int .i64 be1, .bool bg2, .slice bX2 bn2 bc2, .int .i64 be2, .bool bg3, .slice bX3 bn3 bc3, .int .i64 be3]] w fun en w' => en = .returned (.bool R) ∧ Below w.heap.size w w' := by
  refine (callsIn_wide (n := 6)).1 ?_
  refine callsIn_of_wp_marks Try.func27 rfl trivial ?_ rfl
  simp only [Try.ntmps27, List.size_toArray, List.length_cons, List.length_nil, Nat.reduceAdd, Nat.reduceSub, Array.replicate_succ, Array.replicate_zero, List.push_toArray, List.append_toArray, List.nil_append, List.cons_append]
  have gra := Lib.hid ra
  have grb := Lib.hid rb
  have gR := Lib.hid hR
  have gsm := Lib.hid (And.intro hsm hsk)
  clear ra rb hR hsm hsk
  have hpt := parts_any ⟨w.heap.size, 0, none⟩ ⟨w.heap.size + 1, 0, none⟩ (((w.alloc (.cells #[.bool ag0, .slice aX0 an0 ac0, .int .i64 ae0, .bool ag1, .slice aX1 an1 ac1, .int .i64 ae1, .bool ag2, .slice aX2 an2 ac2, .int .i64 ae2, .bool ag3, .slice aX3 an3 ac3, .int .i64 ae3] 26)).alloc (.cells #[.bool bg0, .slice bX0 bn0 bc0, .int .i64 be0, .bool bg1, .slice bX1 bn1 bc1, .int .i64 be1, .bool bg2, .slice bX2 bn2 bc2, .int .i64 be2, .bool bg3, .slice bX3 bn3 bc3, .int .i64 be3] 26)).alloc (.cells #[.bool false] 4))
  simp only [World.size_alloc] at hpt
  obtain ⟨W5, hW5⟩ : ∃ W5, W5 = (((((w.alloc (.cells #[.bool ag0, .slice aX0 an0 ac0, .int .i64 ae0, .bool ag1, .slice aX1 an1 ac1, .int .i64 ae1, .bool ag2, .slice aX2 an2 ac2, .int .i64 ae2, .bool ag3, .slice aX3 an3 ac3, .int .i64 ae3] 26)).alloc (.cells #[.bool bg0, .slice bX0 bn0 bc0, .int .i64 be0, .bool bg1, .slice bX1 bn1 bc1, .int .i64 be1, .bool bg2, .slice bX2 bn2 bc2, .int .i64 be2, .bool bg3, .slice bX3 bn3 bc3, .int .i64 be3] 26)).alloc (.cells #[.bool false] 4)).alloc (.cells #[.pointer (some ⟨w.heap.size, 0, none⟩)] 99)).alloc (.cells #[.pointer (some ⟨w.heap.size + 1, 0, none⟩)] 99)) := ⟨_, rfl⟩
  have B0 : Blk W5 w.heap.size 26 #[.bool ag0, .slice aX0 an0 ac0, .int .i64 ae0, .bool ag1, .slice aX1 an1 ac1, .int .i64 ae1, .bool ag2, .slice aX2 an2 ac2, .int .i64 ae2, .bool ag3, .slice aX3 an3 ac3, .int .i64 ae3] := by rw [hW5]; exact ((((Blk.new w _ _).alloc _).alloc _).alloc _).alloc _
  have B1 : Blk W5 (w.heap.size + 1) 26 #[.bool bg0, .slice bX0 bn0 bc0, .int .i64 be0, .bool bg1, .slice bX1 bn1 bc1, .int .i64 be1, .bool bg2, .slice bX2 bn2 bc2, .int .i64 be2, .bool bg3, .slice bX3 bn3 bc3, .int .i64 be3] := by
    have := (((Blk.new (w.alloc (.cells #[.bool ag0, .slice aX0 an0 ac0, .int .i64 ae0, .bool ag1, .slice aX1 an1 ac1, .int .i64 ae1, .bool ag2, .slice aX2 an2 ac2, .int .i64 ae2, .bool ag3, .slice aX3 an3 ac3, .int .i64 ae3] 26)) 26 #[.bool bg0, .slice bX0 bn0 bc0, .int .i64 be0, .bool bg1, .slice bX1 bn1 bc1, .int .i64 be1, .bool bg2, .slice bX2 bn2 bc2, .int .i64 be2, .bool bg3, .slice bX3 bn3 bc3, .int .i64 be3]).alloc (.cells #[.bool false] 4)).alloc (.cells #[.pointer (some ⟨w.heap.size, 0, none⟩)] 99)).alloc (.cells #[.pointer (some ⟨w.heap.size + 1, 0, none⟩)] 99)
    rw [World.size_alloc] at this
    rw [hW5]; exact this
  have B2 : Blk W5 (w.heap.size + 2) 4 #[.bool false] := by
    have := ((Blk.new ((w.alloc (.cells #[.bool ag0, .slice aX0 an0 ac0, .int .i64 ae0, .bool ag1, .slice aX1 an1 ac1, .int .i64 ae1, .bool ag2, .slice aX2 an2 ac2, .int .i64 ae2, .bool ag3, .slice aX3 an3 ac3, .int .i64 ae3] 26)).alloc (.cells #[.bool bg0, .slice bX0 bn0 bc0, .int .i64 be0, .bool bg1, .slice bX1 bn1 bc1, .int .i64 be1, .bool bg2, .slice bX2 bn2 bc2, .int .i64 be2, .bool bg3, .slice bX3 bn3 bc3, .int .i64 be3] 26)) 4 #[.bool false]).alloc (.cells #[.pointer (some ⟨w.heap.size, 0, none⟩)] 99)).alloc (.cells #[.pointer (some ⟨w.heap.size + 1, 0, none⟩)] 99)
    rw [World.size_alloc, World.size_alloc] at this
    rw [hW5]; exact this
  have B3 : Blk W5 (w.heap.size + 3) 99 #[.pointer (some ⟨w.heap.size, 0, none⟩)] := by
    have := (Blk.new (((w.alloc (.cells #[.bool ag0, .slice aX0 an0 ac0, .int .i64 ae0, .bool ag1, .slice aX1 an1 ac1, .int .i64 ae1, .bool ag2, .slice aX2 an2 ac2, .int .i64 ae2, .bool ag3, .slice aX3 an3 ac3, .int .i64 ae3] 26)).alloc (.cells #[.bool bg0, .slice bX0 bn0 bc0, .int .i64 be0, .bool bg1, .slice bX1 bn1 bc1, .int .i64 be1, .bool bg2, .slice bX2 bn2 bc2, .int .i64 be2, .bool bg3, .slice bX3 bn3 bc3, .int .i64 be3] 26)).alloc (.cells #[.bool false] 4)) 99 #[.pointer (some ⟨w.heap.size, 0, none⟩)]).alloc (.cells #[.pointer (some ⟨w.heap.size + 1, 0, none⟩)] 99)
    simp only [World.size_alloc] at this
    rw [hW5]; exact this
  have B4 : Blk W5 (w.heap.size + 4) 99 #[.pointer (some ⟨w.heap.size + 1, 0, none⟩)] := by
    have := Blk.new ((((w.alloc (.cells #[.bool ag0, .slice aX0 an0 ac0, .int .i64 ae0, .bool ag1, .slice aX1 an1 ac1, .int .i64 ae1, .bool ag2, .slice aX2 an2 ac2, .int .i64 ae2, .bool ag3, .slice aX3 an3 ac3, .int .i64 ae3] 26)).alloc (.cells #[.bool bg0, .slice bX0 bn0 bc0, .int .i64 be0, .bool bg1, .slice bX1 bn1 bc1, .int .i64 be1, .bool bg2, .slice bX2 bn2 bc2, .int .i64 be2, .bool bg3, .slice bX3 bn3 bc3, .int .i64 be3] 26)).alloc (.cells #[.bool false] 4)).alloc (.cells #[.pointer (some ⟨w.heap.size, 0, none⟩)] 99)) 99 #[.pointer (some ⟨w.heap.size + 1, 0, none⟩)]
    simp only [World.size_alloc] at this
    rw [hW5]; exact this
  have hB : Below w.heap.size w W5 := by rw [hW5]; exact (((((Below.refl _ w).alloc (Nat.le_refl _) _).alloc (by simp) _).alloc (by simp; omega) _).alloc (by simp; omega) _).alloc (by simp; omega) _
  have sz : W5.heap.size = w.heap.size + 5 := by rw [hW5]; simp
  have gsz := Lib.hid sz
  gi_wp2_with (refine ⟨trivial, ?_⟩; gi_at_call 56; refine (callsIn_wide.2 hpt).mono ?_; rintro e W' ⟨rfl, rfl⟩)
  rw [← hW5]
  clear hW5 hpt sz
  have q3 := B3.cell 0
  have q4 := B4.cell 0
  simp only [List.getElem?_toArray, List.getElem?_cons_zero] at q3 q4
  refine wpIn_rangeFunc_ownF rfl (by omega) (gf := 84) (lb := #[.pointer (some ⟨w.heap.size + 3, 0, none⟩), .pointer (some ⟨w.heap.size + 4, 0, none⟩)]) rfl trivial (enters_of Try.func84 (by kernel_rfl) rfl)
    (parts_seq _ _ _ _ _ (by omega) W5 q3 q4) kpM_t (kpM_b (by rw [gsz.out]; omega) (by rw [gsz.out]; omega)) (Below.refl _ _) (fun _ => rfl)
    (fun pre W => (Hid (∀ y ∈ pre, prt m y.1 = prt k y.1) ∧ Blk W w.heap.size 26 #[.bool ag0, .slice aX0 an0 ac0, .int .i64 ae0, .bool ag1, .slice aX1 an1 ac1, .int .i64 ae1, .bool ag2, .slice aX2 an2 ac2, .int .i64 ae2, .bool ag3, .slice aX3 an3 ac3, .int .i64 ae3] ∧ Blk W (w.heap.size + 1) 26 #[.bool bg0, .slice bX0 bn0 bc0, .int .i64 be0, .bool bg1, .slice bX1 bn1 bc1, .int .i64 be1, .bool bg2, .slice bX2 bn2 bc2, .int .i64 be2, .bool bg3, .slice bX3 bn3 bc3, .int .i64 be3] ∧ Blk W (w.heap.size + 2) 4 #[.bool false] ∧ Blk W (w.heap.size + 3) 99 #[.pointer (some ⟨w.heap.size, 0, none⟩)] ∧ Blk W (w.heap.size + 4) 99 #[.pointer (some ⟨w.heap.size + 1, 0, none⟩)]) ∧ Below w.heap.size w W)
    (fun c pre W => (c = .ret ∧ Hid (m ≠ k) ∧ Blk W (w.heap.size + 2) 4 #[.bool false]) ∧ Below w.heap.size w W)
    (OwnFrom.and (Own.from (fun s A B row hs hg hr => ⟨hs.1, blk_own (β := List P4) _ _ (fun _ => _) s A B row hs.2.1 hg hr, blk_own (β := List P4) _ _ (fun _ => _) s A B row hs.2.2.1 hg hr, blk_own (β := List P4) _ _ (fun _ => _) s A B row hs.2.2.2.1 hg hr, blk_own (β := List P4) _ _ (fun _ => _) s A B row hs.2.2.2.2.1 hg hr, blk_own (β := List P4) _ _ (fun _ => _) s A B row hs.2.2.2.2.2 hg hr⟩) _) (ownFrom_below (Nat.le_refl _) (by rw [gsz.out]; omega)))
    (fun c => OwnFrom.and (Own.from (fun s A B row hs hg hr => ⟨hs.1, hs.2.1, blk_own (β := List P4) _ _ (fun _ => _) s A B row hs.2.2 hg hr⟩) _) (ownFrom_below (Nat.le_refl _) (by rw [gsz.out]; omega)))
    ⟨⟨Lib.hid (fun y hy => by cases hy), B0, B1, B2, B3, B4⟩, hB⟩
    (fun x => { tmps := #[.agg #[.bool ag0, .slice aX0 an0 ac0, .int .i64 ae0, .bool ag1, .slice aX1 an1 ac1, .int .i64 ae1, .bool ag2, .slice aX2 an2 ac2, .int .i64 ae2, .bool ag3, .slice aX3 an3 ac3, .int .i64 ae3], .agg #[.bool bg0, .slice bX0 bn0 bc0, .int .i64 be0, .bool bg1, .slice bX1 bn1 bc1, .int .i64 be1, .bool bg2, .slice bX2 bn2 bc2, .int .i64 be2, .bool bg3, .slice bX3 bn3 bc3, .int .i64 be3], .pointer (some ⟨w.heap.size, 0, none⟩), .pointer (some ⟨w.heap.size + 1, 0, none⟩), .pointer (some ⟨w.heap.size + 2, 0, none⟩), .pointer (some ⟨w.heap.size, 3 * x.1, none⟩), .pointer (some ⟨w.heap.size + 1, 3 * x.1, none⟩), .func (.func 84) #[] #[.pointer (some ⟨w.heap.size + 3, 0, none⟩), .pointer (some ⟨w.heap.size + 4, 0, none⟩)], .pointer (some ⟨w.heap.size, 3 * x.1, none⟩), .pointer (some ⟨w.heap.size + 1, 3 * x.1, none⟩), undef, undef, undef, undef, undef, undef, undef, undef], defers := [] }) ?assign ?body ?done ?stop
  case assign =>
    intro l x W K hK
    gi_wp2
    exact hK
  case body =>
    rintro l pre ⟨i, hi⟩ W ⟨⟨h1, h2, h3, h4, h5, h6⟩, hW⟩ _
    have hi4 : i = 0 ∨ i = 1 ∨ i = 2 ∨ i = 3 := by omega
    rcases hi4 with rfl | rfl | rfl | rfl
    · have x0 := h2.cell 0
      have x1 := h2.cell 1
      have x2 := h2.cell 2
      have y0 := h3.cell 0
      have y1 := h3.cell 1
      have y2 := h3.cell 2
      simp only [lgA, lgZ, lgS] at x0 x1 x2 y0 y1 y2
      obtain ⟨ea1, ea2, ea3, ea4, ra⟩ := gra.out.1
      obtain ⟨eb1, eb2, eb3, eb4, rb⟩ := grb.out.1
      obtain ⟨Q, hQ⟩ : ∃ Q, decide (prt m 0 = prt k 0) = Q := ⟨_, rfl⟩
      have hds := fun w' (h : Below w.heap.size w w') => dsame_any ag0 bg0 aX0 bX0 an0 bn0 ac0 bc0 ae0 be0 m.s.ls k.s.ls ea3 eb3 (by rw [← ea3]; exact gsm.out.1.1) (by rw [← eb3]; exact gsm.out.2.1) Q (by rw [← hQ]; simp only [prt]; rw [← ea1, ← ea2, ← eb1, ← eb2]) w' ((ra.below h).more h.size) ((rb.below h).more h.size)
      clear ea1 ea2 ea3 ea4 ra eb1 eb2 eb3 eb4 rb
      have gQ := Lib.hid hQ
      clear hQ
      have hWd : Below w.heap.size w { W with drawn := W.drawn + 1 } := ⟨hW.os, hW.tape, hW.output, hW.size, hW.block⟩
      have hd := hds _ hWd
      have f0 := h4.frozen 0
      have d0 := h4.cell 0
      simp only [List.getElem?_toArray, List.getElem?_cons_zero] at d0
      clear hds
      gi_wp2
      refine wpIn_still_round 6 (by kernel_rfl) (by kernel_rfl) (by kernel_rfl) (by rintro ⟨_, _, h⟩; exact h) ?_
      simp only [List.take_succ_cons, List.take_zero, List.drop_succ_cons, List.drop_zero]
      repeat still_step
      try refine wpStill_nil ?_
      cases Q with
      | true =>
        go_wp2_with (go_at_call 57; refine hd.mono ?_; rintro e w2 ⟨rfl, hb⟩)
        have hb2 : Below W.heap.size W w2 := ⟨hb.os, hb.tape, hb.output, hb.size, hb.block⟩
        have hg : W.grownBy w2 none := ⟨hb2.os, hb2.tape, hb2.output, hb2.size, fun k hk _ => hb2.block k hk⟩
        clear d0 f0 hd hb
        gi_wp2
        exact ⟨KeepsOthers.of_grownBy hg (fun j o e ho => by cases e), ⟨hb2.cell (p := ⟨w.heap.size + 3, 0, none⟩) h5.lt, hb2.cell (p := ⟨w.heap.size + 4, 0, none⟩) h6.lt⟩, ⟨Lib.hid (fun y hy => (List.mem_append.1 hy).elim (h1.out y) (fun h => by rw [List.mem_singleton.1 h]; exact of_decide_eq_true gQ.out)), h2.below hb2 h2.lt, h3.below hb2 h3.lt, h4.below hb2 h4.lt, h5.below hb2 h5.lt, h6.below hb2 h6.lt⟩, hW.trans (hb2.mono hW.size)⟩
      | false =>
        go_wp2_with (go_at_call 57; refine hd.mono ?_; rintro e w2 ⟨rfl, hb⟩)
        have hb2 : Below W.heap.size W w2 := ⟨hb.os, hb.tape, hb.output, hb.size, hb.block⟩
        have hg : W.grownBy w2 none := ⟨hb2.os, hb2.tape, hb2.output, hb2.size, fun k hk _ => hb2.block k hk⟩
        clear d0 f0 hd hb
        have h7 := h4.below hb2 h4.lt
        have d0 := h7.cell 0
        have f0 := h7.frozen 0
        simp only [List.getElem?_toArray, List.getElem?_cons_zero] at d0
        have h8 := h7.set_ 0 (.bool false)
        simp at h8
        gi_wp2
        exact ⟨(KeepsOthers.of_grownBy hg (fun j o e ho => by cases e)).trans (KeepsOthers.setCell w2 ⟨w.heap.size + 2, 0, none⟩ _), ⟨rfl, Lib.hid (fun e => by have := gQ.out; rw [e] at this; simp at this), h8⟩, (hW.trans (hb2.mono hW.size)).setCell (p := ⟨w.heap.size + 2, 0, none⟩) (by simp) _⟩
    · have x0 := h2.cell 3
      have x1 := h2.cell 4
      have x2 := h2.cell 5
      have y0 := h3.cell 3
      have y1 := h3.cell 4
      have y2 := h3.cell 5
      simp only [lgA, lgZ, lgS] at x0 x1 x2 y0 y1 y2
      obtain ⟨ea1, ea2, ea3, ea4, ra⟩ := gra.out.2.1
      obtain ⟨eb1, eb2, eb3, eb4, rb⟩ := grb.out.2.1
      obtain ⟨Q, hQ⟩ : ∃ Q, decide (prt m 1 = prt k 1) = Q := ⟨_, rfl⟩
      have hds := fun w' (h : Below w.heap.size w w') => dsame_any ag1 bg1 aX1 bX1 an1 bn1 ac1 bc1 ae1 be1 m.w.ls k.w.ls ea3 eb3 (by rw [← ea3]; exact gsm.out.1.2.1) (by rw [← eb3]; exact gsm.out.2.2.1) Q (by rw [← hQ]; simp only [prt]; rw [← ea1, ← ea2, ← eb1, ← eb2]) w' ((ra.below h).more h.size) ((rb.below h).more h.size)
      clear ea1 ea2 ea3 ea4 ra eb1 eb2 eb3 eb4 rb
      have gQ := Lib.hid hQ
      clear hQ
      have hWd : Below w.heap.size w { W with drawn := W.drawn + 1 } := ⟨hW.os, hW.tape, hW.output, hW.size, hW.block⟩
      have hd := hds _ hWd
      have f0 := h4.frozen 0
      have d0 := h4.cell 0
      simp only [List.getElem?_toArray, List.getElem?_cons_zero] at d0
      clear hds
      gi_wp2
      refine wpIn_still_round 6 (by kernel_rfl) (by kernel_rfl) (by kernel_rfl) (by rintro ⟨_, _, h⟩; exact h) ?_
      simp only [List.take_succ_cons, List.take_zero, List.drop_succ_cons, List.drop_zero]
      repeat still_step
      try refine wpStill_nil ?_
      cases Q with
      | true =>
        go_wp2_with (go_at_call 57; refine hd.mono ?_; rintro e w2 ⟨rfl, hb⟩)
        have hb2 : Below W.heap.size W w2 := ⟨hb.os, hb.tape, hb.output, hb.size, hb.block⟩
        have hg : W.grownBy w2 none := ⟨hb2.os, hb2.tape, hb2.output, hb2.size, fun k hk _ => hb2.block k hk⟩
        clear d0 f0 hd hb
        gi_wp2
        exact ⟨KeepsOthers.of_grownBy hg (fun j o e ho => by cases e), ⟨hb2.cell (p := ⟨w.heap.size + 3, 0, none⟩) h5.lt, hb2.cell (p := ⟨w.heap.size + 4, 0, none⟩) h6.lt⟩, ⟨Lib.hid (fun y hy => (List.mem_append.1 hy).elim (h1.out y) (fun h => by rw [List.mem_singleton.1 h]; exact of_decide_eq_true gQ.out)), h2.below hb2 h2.lt, h3.below hb2 h3.lt, h4.below hb2 h4.lt, h5.below hb2 h5.lt, h6.below hb2 h6.lt⟩, hW.trans (hb2.mono hW.size)⟩
      | false =>
        go_wp2_with (go_at_call 57; refine hd.mono ?_; rintro e w2 ⟨rfl, hb⟩)
        have hb2 : Below W.heap.size W w2 := ⟨hb.os, hb.tape, hb.output, hb.size, hb.block⟩
        have hg : W.grownBy w2 none := ⟨hb2.os, hb2.tape, hb2.output, hb2.size, fun k hk _ => hb2.block k hk⟩
        clear d0 f0 hd hb
        have h7 := h4.below hb2 h4.lt
        have d0 := h7.cell 0
        have f0 := h7.frozen 0
        simp only [List.getElem?_toArray, List.getElem?_cons_zero] at d0
        have h8 := h7.set_ 0 (.bool false)
        simp at h8
        gi_wp2
        exact ⟨(KeepsOthers.of_grownBy hg (fun j o e ho => by cases e)).trans (KeepsOthers.setCell w2 ⟨w.heap.size + 2, 0, none⟩ _), ⟨rfl, Lib.hid (fun e => by have := gQ.out; rw [e] at this; simp at this), h8⟩, (hW.trans (hb2.mono hW.size)).setCell (p := ⟨w.heap.size + 2, 0, none⟩) (by simp) _⟩
    · have x0 := h2.cell 6
      have x1 := h2.cell 7
      have x2 := h2.cell 8
      have y0 := h3.cell 6
      have y1 := h3.cell 7
      have y2 := h3.cell 8
      simp only [lgA, lgZ, lgS] at x0 x1 x2 y0 y1 y2
      obtain ⟨ea1, ea2, ea3, ea4, ra⟩ := gra.out.2.2.1
      obtain ⟨eb1, eb2, eb3, eb4, rb⟩ := grb.out.2.2.1
      obtain ⟨Q, hQ⟩ : ∃ Q, decide (prt m 2 = prt k 2) = Q := ⟨_, rfl⟩
      have hds := fun w' (h : Below w.heap.size w w') => dsame_any ag2 bg2 aX2 bX2 an2 bn2 ac2 bc2 ae2 be2 m.c.ls k.c.ls ea3 eb3 (by rw [← ea3]; exact gsm.out.1.2.2.1) (by rw [← eb3]; exact gsm.out.2.2.2.1) Q (by rw [← hQ]; simp only [prt]; rw [← ea1, ← ea2, ← eb1, ← eb2]) w' ((ra.below h).more h.size) ((rb.below h).more h.size)
      clear ea1 ea2 ea3 ea4 ra eb1 eb2 eb3 eb4 rb
      have gQ := Lib.hid hQ
      clear hQ
      have hWd : Below w.heap.size w { W with drawn := W.drawn + 1 } := ⟨hW.os, hW.tape, hW.output, hW.size, hW.block⟩
      have hd := hds _ hWd
      have f0 := h4.frozen 0
      have d0 := h4.cell 0
      simp only [List.getElem?_toArray, List.getElem?_cons_zero] at d0
      clear hds
      gi_wp2
      refine wpIn_still_round 6 (by kernel_rfl) (by kernel_rfl) (by kernel_rfl) (by rintro ⟨_, _, h⟩; exact h) ?_
      simp only [List.take_succ_cons, List.take_zero, List.drop_succ_cons, List.drop_zero]
      repeat still_step
      try refine wpStill_nil ?_
      cases Q with
      | true =>
        go_wp2_with (go_at_call 57; refine hd.mono ?_; rintro e w2 ⟨rfl, hb⟩)
        have hb2 : Below W.heap.size W w2 := ⟨hb.os, hb.tape, hb.output, hb.size, hb.block⟩
        have hg : W.grownBy w2 none := ⟨hb2.os, hb2.tape, hb2.output, hb2.size, fun k hk _ => hb2.block k hk⟩
        clear d0 f0 hd hb
        gi_wp2
        exact ⟨KeepsOthers.of_grownBy hg (fun j o e ho => by cases e), ⟨hb2.cell (p := ⟨w.heap.size + 3, 0, none⟩) h5.lt, hb2.cell (p := ⟨w.heap.size + 4, 0, none⟩) h6.lt⟩, ⟨Lib.hid (fun y hy => (List.mem_append.1 hy).elim (h1.out y) (fun h => by rw [List.mem_singleton.1 h]; exact of_decide_eq_true gQ.out)), h2.below hb2 h2.lt, h3.below hb2 h3.lt, h4.below hb2 h4.lt, h5.below hb2 h5.lt, h6.below hb2 h6.lt⟩, hW.trans (hb2.mono hW.size)⟩
      | false =>
        go_wp2_with (go_at_call 57; refine hd.mono ?_; rintro e w2 ⟨rfl, hb⟩)
        have hb2 : Below W.heap.size W w2 := ⟨hb.os, hb.tape, hb.output, hb.size, hb.block⟩
        have hg : W.grownBy w2 none := ⟨hb2.os, hb2.tape, hb2.output, hb2.size, fun k hk _ => hb2.block k hk⟩
        clear d0 f0 hd hb
        have h7 := h4.below hb2 h4.lt
        have d0 := h7.cell 0
        have f0 := h7.frozen 0
        simp only [List.getElem?_toArray, List.getElem?_cons_zero] at d0
        have h8 := h7.set_ 0 (.bool false)
        simp at h8
        gi_wp2
        exact ⟨(KeepsOthers.of_grownBy hg (fun j o e ho => by cases e)).trans (KeepsOthers.setCell w2 ⟨w.heap.size + 2, 0, none⟩ _), ⟨rfl, Lib.hid (fun e => by have := gQ.out; rw [e] at this; simp at this), h8⟩, (hW.trans (hb2.mono hW.size)).setCell (p := ⟨w.heap.size + 2, 0, none⟩) (by simp) _⟩
    · have x0 := h2.cell 9
      have x1 := h2.cell 10
      have x2 := h2.cell 11
      have y0 := h3.cell 9
      have y1 := h3.cell 10
      have y2 := h3.cell 11
      simp only [lgA, lgZ, lgS] at x0 x1 x2 y0 y1 y2
      obtain ⟨ea1, ea2, ea3, ea4, ra⟩ := gra.out.2.2.2
      obtain ⟨eb1, eb2, eb3, eb4, rb⟩ := grb.out.2.2.2
      obtain ⟨Q, hQ⟩ : ∃ Q, decide (prt m 3 = prt k 3) = Q := ⟨_, rfl⟩
      have hds := fun w' (h : Below w.heap.size w w') => dsame_any ag3 bg3 aX3 bX3 an3 bn3 ac3 bc3 ae3 be3 m.a.ls k.a.ls ea3 eb3 (by rw [← ea3]; exact gsm.out.1.2.2.2) (by rw [← eb3]; exact gsm.out.2.2.2.2) Q (by rw [← hQ]; simp only [prt]; rw [← ea1, ← ea2, ← eb1, ← eb2]) w' ((ra.below h).more h.size) ((rb.below h).more h.size)
      clear ea1 ea2 ea3 ea4 ra eb1 eb2 eb3 eb4 rb
      have gQ := Lib.hid hQ
      clear hQ
      have hWd : Below w.heap.size w { W with drawn := W.drawn + 1 } := ⟨hW.os, hW.tape, hW.output, hW.size, hW.block⟩
      have hd := hds _ hWd
      have f0 := h4.frozen 0
      have d0 := h4.cell 0
      simp only [List.getElem?_toArray, List.getElem?_cons_zero] at d0
      clear hds
      gi_wp2
      refine wpIn_still_round 6 (by kernel_rfl) (by kernel_rfl) (by kernel_rfl) (by rintro ⟨_, _, h⟩; exact h) ?_
      simp only [List.take_succ_cons, List.take_zero, List.drop_succ_cons, List.drop_zero]
      repeat still_step
      try refine wpStill_nil ?_
      cases Q with
      | true =>
        go_wp2_with (go_at_call 57; refine hd.mono ?_; rintro e w2 ⟨rfl, hb⟩)
        have hb2 : Below W.heap.size W w2 := ⟨hb.os, hb.tape, hb.output, hb.size, hb.block⟩
        have hg : W.grownBy w2 none := ⟨hb2.os, hb2.tape, hb2.output, hb2.size, fun k hk _ => hb2.block k hk⟩
        clear d0 f0 hd hb
        gi_wp2
        exact ⟨KeepsOthers.of_grownBy hg (fun j o e ho => by cases e), ⟨hb2.cell (p := ⟨w.heap.size + 3, 0, none⟩) h5.lt, hb2.cell (p := ⟨w.heap.size + 4, 0, none⟩) h6.lt⟩, ⟨Lib.hid (fun y hy => (List.mem_append.1 hy).elim (h1.out y) (fun h => by rw [List.mem_singleton.1 h]; exact of_decide_eq_true gQ.out)), h2.below hb2 h2.lt, h3.below hb2 h3.lt, h4.below hb2 h4.lt, h5.below hb2 h5.lt, h6.below hb2 h6.lt⟩, hW.trans (hb2.mono hW.size)⟩
      | false =>
        go_wp2_with (go_at_call 57; refine hd.mono ?_; rintro e w2 ⟨rfl, hb⟩)
        have hb2 : Below W.heap.size W w2 := ⟨hb.os, hb.tape, hb.output, hb.size, hb.block⟩
        have hg : W.grownBy w2 none := ⟨hb2.os, hb2.tape, hb2.output, hb2.size, fun k hk _ => hb2.block k hk⟩
        clear d0 f0 hd hb
        have h7 := h4.below hb2 h4.lt
        have d0 := h7.cell 0
        have f0 := h7.frozen 0
        simp only [List.getElem?_toArray, List.getElem?_cons_zero] at d0
        have h8 := h7.set_ 0 (.bool false)
        simp at h8
        gi_wp2
        exact ⟨(KeepsOthers.of_grownBy hg (fun j o e ho => by cases e)).trans (KeepsOthers.setCell w2 ⟨w.heap.size + 2, 0, none⟩ _), ⟨rfl, Lib.hid (fun e => by have := gQ.out; rw [e] at this; simp at this), h8⟩, (hW.trans (hb2.mono hW.size)).setCell (p := ⟨w.heap.size + 2, 0, none⟩) (by simp) _⟩
  case done =>
    rintro D ys W hD rfl ⟨⟨h1, h2, h3, h4, _, _⟩, hW⟩ hK
    have hmk : m = k := ms_eq (fun i hi => by
      have h := h1.out
      match i, hi with
      | 0, _ => exact h p0 (by simp)
      | 1, _ => exact h p1 (by simp)
      | 2, _ => exact h p2 (by simp)
      | 3, _ => exact h p3 (by simp))
    obtain rfl : true = R := by rw [← gR.out]; simp [hmk]
    clear hmk gR
    have d0 := h4.cell 0
    have f0 := h4.frozen 0
    simp only [List.getElem?_toArray, List.getElem?_cons_zero] at d0
    have hD' : w.heap.size + 5 ≤ D := by rw [gsz.out] at hD; exact hD
    have hDl : D < W.heap.size := (Array.getElem?_eq_some_iff.1 hK).1
    have hK2 := (KeepsOthers.setCell W ⟨w.heap.size + 2, 0, none⟩ (.bool true)).same D _ hK rfl
    have B5 := h4.set_ 0 (.bool true)
    have B6 := B5.grown (grownBy_putObj' _ D (.deferred none)) (by simp; omega)
    have q0 := B6.cell 0
    simp at q0
    clear B5 B6 h1 h2 h3 h4
    gi_wp2
    refine ⟨by simp, .inl ⟨_, _, rfl, run_takeDeferred hK2, ?_⟩⟩
    refine ⟨.bool true, ?_, rfl, (hW.setCell (p := ⟨w.heap.size + 2, 0, none⟩) (by simp) _).trans (belowK_b (w := w) (Nat.le_refl _) _ D _ _ (by omega) hK2 rfl rfl)⟩
    simp [results, Try.f27, go_sem, q0]
  case stop =>
    rintro D c pre W hD _ ⟨⟨rfl, h1, h2⟩, hW⟩ hK
    obtain rfl : false = R := by rw [← gR.out]; exact (decide_eq_false h1.out).symm
    clear gR
    have hDl : D < W.heap.size := (Array.getElem?_eq_some_iff.1 hK).1
    have hD' : w.heap.size + 5 ≤ D := by rw [gsz.out] at hD; exact hD
    have B6 := h2.grown (grownBy_putObj' _ D (.deferred none)) (by simp; omega)
    have q0 := B6.cell 0
    simp at q0
    clear B6 h1 h2
    gi_wp2
    refine ⟨by simp, .inl ⟨_, _, rfl, run_takeDeferred hK, ?_⟩⟩
    refine ⟨.bool false, ?_, rfl, hW.trans (belowK_b (w := w) (Nat.le_refl _) _ D _ _ (by omega) hK rfl rfl)⟩
    simp [results, Try.f27, go_sem, q0]
end Go.Proofs.Ytjmhefkmpfkpbaa
namespace Go.Proofs.Ytjmhefkmpfkpbaa
open Go.Shelf Go.ChangeShapes Go.WideShapes Go.ChangeAt Go.RowKit
set_option linter.unusedSimpArgs false
set_option linter.unusedVariables false
/-- A part under way: its own copy, or the first one still. -/
def StT (W : World) (B n : Nat) (l : List Nat) (X0 : Option Addr) (c0 : Nat) (out : Prop) (X : Option Addr) (c : Nat) : Prop := n ≤ c ∧ (OwnR W B 52 X n (ints .u32 l) ∨ (out ∧ X = X0 ∧ c = c0))
section
variable {W W' : World} {B n c c0 : Nat} {l : List Nat} {X0 X : Option Addr} {out out' : Prop}
theorem StT.map (h : StT W B n l X0 c0 out X c) (h1 : OwnR W B 52 X n (ints .u32 l) → OwnR W' B 52 X n (ints .u32 l)) (h2 : out → out') : StT W' B n l X0 c0 out' X c := ⟨h.1, h.2.imp h1 (fun ⟨a, b⟩ => ⟨h2 a, b⟩)⟩
theorem ownR_own {xs : List Value} {e : TypeId} {row : Option Nat} (h : OwnR W B e X n xs) (hg : W.grownBy W' row) (hr : ∀ r, row = some r → ∃ o : Obj, W.heap[r]? = some o ∧ o.isCells = false) : OwnR W' B e X n xs :=
  ⟨h.1, fun h0 => by
    obtain ⟨g, cur, hA, hb, hh, ht⟩ := h.2 h0
    refine ⟨g, cur, hA, hb, hh.grown hg (fun e => ?_), ht⟩
    obtain ⟨o, ho, hc⟩ := hr g e.symm
    unfold Blk at hh
    rw [hh] at ho
    injection ho with ho
    subst ho
    cases hc⟩
theorem StT.own (h : StT W B n l X0 c0 out X c) {row : Option Nat} (hg : W.grownBy W' row) (hr : ∀ r, row = some r → ∃ o : Obj, W.heap[r]? = some o ∧ o.isCells = false) : StT W' B n l X0 c0 out X c := h.map (fun h => ownR_own h hg hr) id
theorem StT.reads {w : World} {c0' : Nat} (h : StT W B n l X0 c0 out X c) (hr : Reads w w.heap.size 1 X0 n (ints .u32 l)) (hb : Below w.heap.size w W) : Reads W W.heap.size 1 X n (ints .u32 l) := by
  rcases h.2 with h | ⟨_, rfl, _⟩
  · exact h.reads
  · exact (hr.below hb).more hb.size
end
theorem blk3 {w : World} {g i : Nat} {T : TypeId} {cs ds : Array Value} (h : Blk w g T cs) (u0 u1 u2 : Value) (hd : ((cs.setIfInBounds i u0).setIfInBounds (i + 1) u1).setIfInBounds (i + 2) u2 = ds) : Blk (((w.setCell ⟨g, i, none⟩ u0).setCell ⟨g, i + 1, none⟩ u1).setCell ⟨g, i + 2, none⟩ u2) g T ds := by
  rw [← hd]
  exact ((h.set_ i u0).set_ (i + 1) u1).set_ (i + 2) u2
attribute [local go_sem] Oper.semAt_some
end Go.Proofs.Ytjmhefkmpfkpbaa
namespace Go.Proofs.Ytjmhefkmpfkpbaa
open Go.ChangeShapes Go.WideShapes Go.ChangeAt Go.RowKit
set_option linter.unusedSimpArgs false
set_option linter.unusedVariables false
def grM (n0 : Nat) (e0 : Int) (n1 : Nat) (e1 : Int) (n2 : Nat) (e2 : Int) (n3 : Nat) (e3 : Int) : Bool := grD n0 e0 || grD n1 e1 || grD n2 e2 || grD n3 e3
set_option maxHeartbeats 4000000 in
theorem mgreat_any (ag0 : Bool) (aX0 : Option Addr) (an0 ac0 : Nat) (ae0 : Int) (ag1 : Bool) (aX1 : Option Addr) (an1 ac1 : Nat) (ae1 : Int) (ag2 : Bool) (aX2 : Option Addr) (an2 ac2 : Nat) (ae2 : Int) (ag3 : Bool) (aX3 : Option Addr) (an3 ac3 : Nat) (ae3 : Int) (R : Bool) (hR : grM an0 ae0 an1 ae1 an2 ae2 an3 ae3 = R) (w : World) :
    Calls Try.prog 25 #[.agg #[.bool ag0, .slice aX0 an0 ac0, .int .i64 ae0, .bool ag1, .slice aX1 an1 ac1, .int .i64 ae1, .bool ag2, .slice aX2 an2 ac2, .int .i64 ae2, .bool ag3, .slice aX3 an3 ac3, .int .i64 ae3]] w fun en w' => en = .returned (.bool R) ∧ Below w.heap.size w w' := by
  have hB := (Below.refl w.heap.size w).alloc (Nat.le_refl _) (.cells #[.bool ag0, .slice aX0 an0 ac0, .int .i64 ae0, .bool ag1, .slice aX1 an1 ac1, .int .i64 ae1, .bool ag2, .slice aX2 an2 ac2, .int .i64 ae2, .bool ag3, .slice aX3 an3 ac3, .int .i64 ae3] 26)
  have kb := Blk.new w 26 #[.bool ag0, .slice aX0 an0 ac0, .int .i64 ae0, .bool ag1, .slice aX1 an1 ac1, .int .i64 ae1, .bool ag2, .slice aX2 an2 ac2, .int .i64 ae2, .bool ag3, .slice aX3 an3 ac3, .int .i64 ae3]
  unfold grM at hR
  obtain ⟨Q0, hQ0⟩ : ∃ Q, grD an0 ae0 = Q := ⟨_, rfl⟩
  have hc0 := fun w => dgreat_any ag0 aX0 an0 ac0 ae0 Q0 hQ0 w
  obtain ⟨Q1, hQ1⟩ : ∃ Q, grD an1 ae1 = Q := ⟨_, rfl⟩
  have hc1 := fun w => dgreat_any ag1 aX1 an1 ac1 ae1 Q1 hQ1 w
  obtain ⟨Q2, hQ2⟩ : ∃ Q, grD an2 ae2 = Q := ⟨_, rfl⟩
  have hc2 := fun w => dgreat_any ag2 aX2 an2 ac2 ae2 Q2 hQ2 w
  obtain ⟨Q3, hQ3⟩ : ∃ Q, grD an3 ae3 = Q := ⟨_, rfl⟩
  have hc3 := fun w => dgreat_any ag3 aX3 an3 ac3 ae3 Q3 hQ3 w
  rw [hQ0, hQ1, hQ2, hQ3] at hR
  clear hQ0 hQ1 hQ2 hQ3
  cases Q0 with
  | true =>
    simp only [Bool.or_true, Bool.true_or, Bool.or_false, Bool.false_or, Bool.and_true, Bool.true_and, Bool.and_false, Bool.false_and] at hR
    subst hR
    go_enter Try.func25, Try.ntmps25
    go_wp2_with fail
    refine (hc0 _).mono ?_
    rintro en w1 ⟨rfl, hb1⟩
    have hB1 := hB.trans (hb1.mono hB.size)
    go_wp2
    go_ret
    exact ⟨rfl, hB1⟩
  | false =>
    cases Q1 with
    | true =>
      simp only [Bool.or_true, Bool.true_or, Bool.or_false, Bool.false_or, Bool.and_true, Bool.true_and, Bool.and_false, Bool.false_and] at hR
      subst hR
      go_enter Try.func25, Try.ntmps25
      go_wp2_with fail
      refine (hc0 _).mono ?_
      rintro en w1 ⟨rfl, hb1⟩
      have hB1 := hB.trans (hb1.mono hB.size)
      have kb1 := kb.below (hb1) kb.lt
      have x0_0 := kb1.cell 0
      have x0_1 := kb1.cell 1
      have x0_2 := kb1.cell 2
      have x0_3 := kb1.cell 3
      have x0_4 := kb1.cell 4
      have x0_5 := kb1.cell 5
      have x0_6 := kb1.cell 6
      have x0_7 := kb1.cell 7
      have x0_8 := kb1.cell 8
      have x0_9 := kb1.cell 9
      have x0_10 := kb1.cell 10
      have x0_11 := kb1.cell 11
      simp only [lgA, lgZ, lgS] at x0_0 x0_1 x0_2 x0_3 x0_4 x0_5 x0_6 x0_7 x0_8 x0_9 x0_10 x0_11
      go_wp2_with fail
      refine (hc1 _).mono ?_
      rintro en w2 ⟨rfl, hb2⟩
      have hB2 := hB1.trans (hb2.mono hB1.size)
      go_wp2
      go_ret
      exact ⟨rfl, hB2⟩
    | false =>
      cases Q2 with
      | true =>
        simp only [Bool.or_true, Bool.true_or, Bool.or_false, Bool.false_or, Bool.and_true, Bool.true_and, Bool.and_false, Bool.false_and] at hR
        subst hR
        go_enter Try.func25, Try.ntmps25
        go_wp2_with fail
        refine (hc0 _).mono ?_
        rintro en w1 ⟨rfl, hb1⟩
        have hB1 := hB.trans (hb1.mono hB.size)
        have kb1 := kb.below (hb1) kb.lt
        have x0_0 := kb1.cell 0
        have x0_1 := kb1.cell 1
        have x0_2 := kb1.cell 2
        have x0_3 := kb1.cell 3
        have x0_4 := kb1.cell 4
        have x0_5 := kb1.cell 5
        have x0_6 := kb1.cell 6
        have x0_7 := kb1.cell 7
        have x0_8 := kb1.cell 8
        have x0_9 := kb1.cell 9
        have x0_10 := kb1.cell 10
        have x0_11 := kb1.cell 11
        simp only [lgA, lgZ, lgS] at x0_0 x0_1 x0_2 x0_3 x0_4 x0_5 x0_6 x0_7 x0_8 x0_9 x0_10 x0_11
        go_wp2_with fail
        refine (hc1 _).mono ?_
        rintro en w2 ⟨rfl, hb2⟩
        have hB2 := hB1.trans (hb2.mono hB1.size)
        have kb2 := kb.below ((hb1).trans (hb2.mono (hb1).size)) kb.lt
        have x1_0 := kb2.cell 0
        have x1_1 := kb2.cell 1
        have x1_2 := kb2.cell 2
        have x1_3 := kb2.cell 3
        have x1_4 := kb2.cell 4
        have x1_5 := kb2.cell 5
        have x1_6 := kb2.cell 6
        have x1_7 := kb2.cell 7
        have x1_8 := kb2.cell 8
        have x1_9 := kb2.cell 9
        have x1_10 := kb2.cell 10
        have x1_11 := kb2.cell 11
        simp only [lgA, lgZ, lgS] at x1_0 x1_1 x1_2 x1_3 x1_4 x1_5 x1_6 x1_7 x1_8 x1_9 x1_10 x1_11
        go_wp2_with fail
        refine (hc2 _).mono ?_
        rintro en w3 ⟨rfl, hb3⟩
        have hB3 := hB2.trans (hb3.mono hB2.size)
        go_wp2
        go_ret
        exact ⟨rfl, hB3⟩
      | false =>
        cases Q3 with
        | true =>
          simp only [Bool.or_true, Bool.true_or, Bool.or_false, Bool.false_or, Bool.and_true, Bool.true_and, Bool.and_false, Bool.false_and] at hR
          subst hR
          go_enter Try.func25, Try.ntmps25
          go_wp2_with fail
          refine (hc0 _).mono ?_
          rintro en w1 ⟨rfl, hb1⟩
          have hB1 := hB.trans (hb1.mono hB.size)
          have kb1 := kb.below (hb1) kb.lt
          have x0_0 := kb1.cell 0
          have x0_1 := kb1.cell 1
          have x0_2 := kb1.cell 2
          have x0_3 := kb1.cell 3
          have x0_4 := kb1.cell 4
          have x0_5 := kb1.cell 5
          have x0_6 := kb1.cell 6
          have x0_7 := kb1.cell 7
          have x0_8 := kb1.cell 8
          have x0_9 := kb1.cell 9
          have x0_10 := kb1.cell 10
          have x0_11 := kb1.cell 11
          simp only [lgA, lgZ, lgS] at x0_0 x0_1 x0_2 x0_3 x0_4 x0_5 x0_6 x0_7 x0_8 x0_9 x0_10 x0_11
          go_wp2_with fail
          refine (hc1 _).mono ?_
          rintro en w2 ⟨rfl, hb2⟩
          have hB2 := hB1.trans (hb2.mono hB1.size)
          have kb2 := kb.below ((hb1).trans (hb2.mono (hb1).size)) kb.lt
          have x1_0 := kb2.cell 0
          have x1_1 := kb2.cell 1
          have x1_2 := kb2.cell 2
          have x1_3 := kb2.cell 3
          have x1_4 := kb2.cell 4
          have x1_5 := kb2.cell 5
          have x1_6 := kb2.cell 6
          have x1_7 := kb2.cell 7
          have x1_8 := kb2.cell 8
          have x1_9 := kb2.cell 9
          have x1_10 := kb2.cell 10
          have x1_11 := kb2.cell 11
          simp only [lgA, lgZ, lgS] at x1_0 x1_1 x1_2 x1_3 x1_4 x1_5 x1_6 x1_7 x1_8 x1_9 x1_10 x1_11
          go_wp2_with fail
          refine (hc2 _).mono ?_
          rintro en w3 ⟨rfl, hb3⟩
          have hB3 := hB2.trans (hb3.mono hB2.size)
          have kb3 := kb.below (((hb1).trans (hb2.mono (hb1).size)).trans (hb3.mono ((hb1).trans (hb2.mono (hb1).size)).size)) kb.lt
          have x2_0 := kb3.cell 0
          have x2_1 := kb3.cell 1
          have x2_2 := kb3.cell 2
          have x2_3 := kb3.cell 3
          have x2_4 := kb3.cell 4
          have x2_5 := kb3.cell 5
          have x2_6 := kb3.cell 6
          have x2_7 := kb3.cell 7
          have x2_8 := kb3.cell 8
          have x2_9 := kb3.cell 9
          have x2_10 := kb3.cell 10
          have x2_11 := kb3.cell 11
          simp only [lgA, lgZ, lgS] at x2_0 x2_1 x2_2 x2_3 x2_4 x2_5 x2_6 x2_7 x2_8 x2_9 x2_10 x2_11
          go_wp2_with fail
          refine (hc3 _).mono ?_
          rintro en w4 ⟨rfl, hb4⟩
          have hB4 := hB3.trans (hb4.mono hB3.size)
          go_wp2
          go_ret
          exact ⟨rfl, hB4⟩
        | false =>
          simp only [Bool.or_true, Bool.true_or, Bool.or_false, Bool.false_or, Bool.and_true, Bool.true_and, Bool.and_false, Bool.false_and] at hR
          subst hR
          go_enter Try.func25, Try.ntmps25
          go_wp2_with fail
          refine (hc0 _).mono ?_
          rintro en w1 ⟨rfl, hb1⟩
          have hB1 := hB.trans (hb1.mono hB.size)
          have kb1 := kb.below (hb1) kb.lt
          have x0_0 := kb1.cell 0
          have x0_1 := kb1.cell 1
          have x0_2 := kb1.cell 2
          have x0_3 := kb1.cell 3
          have x0_4 := kb1.cell 4
          have x0_5 := kb1.cell 5
          have x0_6 := kb1.cell 6
          have x0_7 := kb1.cell 7
          have x0_8 := kb1.cell 8
          have x0_9 := kb1.cell 9
          have x0_10 := kb1.cell 10
          have x0_11 := kb1.cell 11
          simp only [lgA, lgZ, lgS] at x0_0 x0_1 x0_2 x0_3 x0_4 x0_5 x0_6 x0_7 x0_8 x0_9 x0_10 x0_11
          go_wp2_with fail
          refine (hc1 _).mono ?_
          rintro en w2 ⟨rfl, hb2⟩
          have hB2 := hB1.trans (hb2.mono hB1.size)
          have kb2 := kb.below ((hb1).trans (hb2.mono (hb1).size)) kb.lt
          have x1_0 := kb2.cell 0
          have x1_1 := kb2.cell 1
          have x1_2 := kb2.cell 2
          have x1_3 := kb2.cell 3
          have x1_4 := kb2.cell 4
          have x1_5 := kb2.cell 5
          have x1_6 := kb2.cell 6
          have x1_7 := kb2.cell 7
          have x1_8 := kb2.cell 8
          have x1_9 := kb2.cell 9
          have x1_10 := kb2.cell 10
          have x1_11 := kb2.cell 11
          simp only [lgA, lgZ, lgS] at x1_0 x1_1 x1_2 x1_3 x1_4 x1_5 x1_6 x1_7 x1_8 x1_9 x1_10 x1_11
          go_wp2_with fail
          refine (hc2 _).mono ?_
          rintro en w3 ⟨rfl, hb3⟩
          have hB3 := hB2.trans (hb3.mono hB2.size)
          have kb3 := kb.below (((hb1).trans (hb2.mono (hb1).size)).trans (hb3.mono ((hb1).trans (hb2.mono (hb1).size)).size)) kb.lt
          have x2_0 := kb3.cell 0
          have x2_1 := kb3.cell 1
          have x2_2 := kb3.cell 2
          have x2_3 := kb3.cell 3
          have x2_4 := kb3.cell 4
          have x2_5 := kb3.cell 5
          have x2_6 := kb3.cell 6
          have x2_7 := kb3.cell 7
          have x2_8 := kb3.cell 8
          have x2_9 := kb3.cell 9
          have x2_10 := kb3.cell 10
          have x2_11 := kb3.cell 11
          simp only [lgA, lgZ, lgS] at x2_0 x2_1 x2_2 x2_3 x2_4 x2_5 x2_6 x2_7 x2_8 x2_9 x2_10 x2_11
          go_wp2_with fail
          refine (hc3 _).mono ?_
          rintro en w4 ⟨rfl, hb4⟩
          have hB4 := hB3.trans (hb4.mono hB3.size)
          go_wp2
          go_ret
          exact ⟨rfl, hB4⟩
end Go.Proofs.Ytjmhefkmpfkpbaa
