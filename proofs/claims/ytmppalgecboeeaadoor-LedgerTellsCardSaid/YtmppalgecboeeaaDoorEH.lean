/- Door: masses as letters; law21.of -/
import Derived.Test.YtmppalgecboeeaaDoorEG
import Derived.Test.YtmppalgecboeeaaDoorDN
namespace Go.Proofs.YtmppalgecboeeaaDoor
open Go.ChangeShapes Go.WideShapes Go.ChangeAt Go.RowKit
set_option linter.unusedSimpArgs false
set_option linter.unusedVariables false
open Go.Shelf
set_option maxRecDepth 100000
/-- A mass with the rows that it lies in. -/
structure MB where
  m : Ms
  X0 : Option Addr
  c0 : Nat
  X1 : Option Addr
  c1 : Nat
  X2 : Option Addr
  c2 : Nat
  X3 : Option Addr
  c3 : Nat
def OwM (w : World) (B : Nat) (o : MB) : Prop := OwD w B o.X0 o.c0 o.m.s ∧ OwD w B o.X1 o.c1 o.m.w ∧ OwD w B o.X2 o.c2 o.m.c ∧ OwD w B o.X3 o.c3 o.m.a
theorem OwD.base_le {w : World} {B b c : Nat} {X : Option Addr} {d : Dy} (h : OwD w B X c d) (hb : b ≤ B) : OwD w b X c d := ⟨h.1, h.2.base_le hb⟩
theorem OwM.below {w w' : World} {B : Nat} {o : MB} (h : OwM w B o) (hb : Below w.heap.size w w') : OwM w' B o := ⟨h.1.below hb, h.2.1.below hb, h.2.2.1.below hb, h.2.2.2.below hb⟩
theorem OwM.base_le {w : World} {B b : Nat} {o : MB} (h : OwM w B o) (hb : b ≤ B) : OwM w b o := ⟨h.1.base_le hb, h.2.1.base_le hb, h.2.2.1.base_le hb, h.2.2.2.base_le hb⟩
theorem OwD.rd {w : World} {B c : Nat} {X : Option Addr} {d : Dy} (h : OwD w B X c d) : RdD w w.heap.size d.neg X d.ls.length c d.ex d := ⟨rfl, rfl, rfl, h.1, h.2.reads⟩
/-- A mass that is read. -/
abbrev RdO (w : World) (o : MB) : Prop := RdM w w.heap.size o.m.s.neg o.X0 o.m.s.ls.length o.c0 o.m.s.ex o.m.w.neg o.X1 o.m.w.ls.length o.c1 o.m.w.ex o.m.c.neg o.X2 o.m.c.ls.length o.c2 o.m.c.ex o.m.a.neg o.X3 o.m.a.ls.length o.c3 o.m.a.ex o.m
theorem OwM.rd {w : World} {B : Nat} {o : MB} (h : OwM w B o) : RdO w o := ⟨h.1.rd, h.2.1.rd, h.2.2.1.rd, h.2.2.2.rd⟩
theorem RdO.below {w w' : World} {o : MB} (h : RdO w o) (hb : Below w.heap.size w w') : RdO w' o := RdM.below h hb hb.size
theorem rdD_zero (w : World) (B : Nat) : RdD w B false none 0 0 0 ⟨false, [], 0⟩ := ⟨rfl, rfl, rfl, Nat.le_refl _, Reads.none_⟩
theorem rdM_zero (w : World) (B : Nat) : RdM w B false none 0 0 0 false none 0 0 0 false none 0 0 0 false none 0 0 0 zM := ⟨rdD_zero w B, rdD_zero w B, rdD_zero w B, rdD_zero w B⟩
theorem zM_sm : smM zM := ⟨Nat.zero_le _, Nat.zero_le _, Nat.zero_le _, Nat.zero_le _⟩
theorem lt_nil : ∀ x ∈ ([] : List Nat), x < LB := fun x h => by cases h
theorem zM_lt : ltM4 zM := ⟨lt_nil, lt_nil, lt_nil, lt_nil⟩
/-- What a sum over a ledger answers: its error, or a mass. -/
theorem lsum_yes {d : Ms} {w w' : World} {en : Ending} (h : LSumP 0 (some d) w en w') : ∃ o : MB, o.m = d ∧ en = .returned (.tuple #[.agg #[.bool o.m.s.neg, .slice o.X0 o.m.s.ls.length o.c0, .int .i64 o.m.s.ex, .bool o.m.w.neg, .slice o.X1 o.m.w.ls.length o.c1, .int .i64 o.m.w.ex, .bool o.m.c.neg, .slice o.X2 o.m.c.ls.length o.c2, .int .i64 o.m.c.ex, .bool o.m.a.neg, .slice o.X3 o.m.a.ls.length o.c3, .int .i64 o.m.a.ex], .int .i64 0]) ∧ OwM w' w.heap.size o ∧ Below w.heap.size w w' := by
  obtain ⟨hb, ⟨h0, _⟩ | ⟨_, ⟨h1, _⟩ | ⟨d', h1, X0, c0, X1, c1, X2, c2, X3, c3, he, i0, i1, i2, i3⟩⟩⟩ := h
  · exact absurd rfl h0
  · cases h1
  · injection h1 with h1
    subst h1
    exact ⟨⟨d, X0, c0, X1, c1, X2, c2, X3, c3⟩, rfl, he, ⟨i0, i1, i2, i3⟩, hb⟩
/-- What a sum over a ledger answers, in one way: a number and a mass, which is 0 where the number is not. -/
def lsE (E : Int) (s : Option Ms) : Int := if E ≠ 0 then E else match s with | none => 10 | some _ => 0
def lsM (E : Int) (s : Option Ms) : Ms := if E ≠ 0 then zM else s.getD zM
theorem lsum_one {E : Int} {s : Option Ms} {w w' : World} {en : Ending} (h : LSumP E s w en w') : ∃ o : MB, o.m = lsM E s ∧ en = .returned (.tuple #[.agg #[.bool o.m.s.neg, .slice o.X0 o.m.s.ls.length o.c0, .int .i64 o.m.s.ex, .bool o.m.w.neg, .slice o.X1 o.m.w.ls.length o.c1, .int .i64 o.m.w.ex, .bool o.m.c.neg, .slice o.X2 o.m.c.ls.length o.c2, .int .i64 o.m.c.ex, .bool o.m.a.neg, .slice o.X3 o.m.a.ls.length o.c3, .int .i64 o.m.a.ex], .int .i64 (lsE E s)]) ∧ OwM w' w.heap.size o ∧ Below w.heap.size w w' := by
  have hz : OwM w' w.heap.size ⟨zM, none, 0, none, 0, none, 0, none, 0⟩ := ⟨owD_zero _ _, owD_zero _ _, owD_zero _ _, owD_zero _ _⟩
  obtain ⟨hb, ⟨h0, he⟩ | ⟨h0, ⟨h1, he⟩ | ⟨d', h1, X0, c0, X1, c1, X2, c2, X3, c3, he, i0, i1, i2, i3⟩⟩⟩ := h
  · exact ⟨_, (if_pos h0).symm, by rw [he]; unfold lsE; rw [if_pos h0]; rfl, hz, hb⟩
  · subst h0 h1
    exact ⟨_, rfl, he, hz, hb⟩
  · subst h0 h1
    exact ⟨⟨d', X0, c0, X1, c1, X2, c2, X3, c3⟩, rfl, he, ⟨i0, i1, i2, i3⟩, hb⟩
/-- What the sum of two masses answers, in one way. -/
def maE (m k : Ms) : Int := if (mayM m && mayM k) = false then 8 else match addM m k with | none => 10 | some _ => 0
def maM (m k : Ms) : Ms := if (mayM m && mayM k) = false then zM else (addM m k).getD zM
theorem madd_one {m k : Ms} {w w' : World} {en : Ending} (h : MaddP m k w en w') : ∃ o : MB, o.m = maM m k ∧ en = .returned (.tuple #[.agg #[.bool o.m.s.neg, .slice o.X0 o.m.s.ls.length o.c0, .int .i64 o.m.s.ex, .bool o.m.w.neg, .slice o.X1 o.m.w.ls.length o.c1, .int .i64 o.m.w.ex, .bool o.m.c.neg, .slice o.X2 o.m.c.ls.length o.c2, .int .i64 o.m.c.ex, .bool o.m.a.neg, .slice o.X3 o.m.a.ls.length o.c3, .int .i64 o.m.a.ex], .int .i64 (maE m k)]) ∧ OwM w' w.heap.size o ∧ Below w.heap.size w w' := by
  have hz : OwM w' w.heap.size ⟨zM, none, 0, none, 0, none, 0, none, 0⟩ := ⟨owD_zero _ _, owD_zero _ _, owD_zero _ _, owD_zero _ _⟩
  obtain ⟨hb, ⟨h0, he⟩ | ⟨h0, ⟨h1, he⟩ | ⟨d', h1, X0, c0, X1, c1, X2, c2, X3, c3, he, i0, i1, i2, i3⟩⟩⟩ := h
  · exact ⟨_, (if_pos h0).symm, by rw [he]; unfold maE; rw [if_pos h0]; rfl, hz, hb⟩
  · have h2 : ¬ (mayM m && mayM k) = false := by rw [h0]; decide
    exact ⟨_, by unfold maM; rw [if_neg h2, h1]; rfl, by rw [he]; unfold maE; rw [if_neg h2, h1]; rfl, hz, hb⟩
  · have h2 : ¬ (mayM m && mayM k) = false := by rw [h0]; decide
    exact ⟨⟨d', X0, c0, X1, c1, X2, c2, X3, c3⟩, by unfold maM; rw [if_neg h2, h1]; rfl, by rw [he]; unfold maE; rw [if_neg h2, h1], ⟨i0, i1, i2, i3⟩, hb⟩
/-- What Book answers, the error and the entries being known. -/
theorem book_is {l l' : List En} {N y E : Int} {g : Ms} {w w' : World} {en : Ending} (h : BookP l N y g w en w') (hE : bkE l N y g = E) (hl : bkL l N y g = l') : ∃ Ao co, en = .returned (.tuple #[.slice Ao l'.length co, .int .i64 E]) ∧ TwE w l'.length l' Ao co w' := by
  obtain ⟨Ao, n, co, he, hn, ht⟩ := h
  subst hE hl hn
  exact ⟨Ao, co, he, ht⟩
theorem addD_is {a b d : Dy} (hd : okd d) (h : worth a + worth b = worth d) : addD a b = some d := by
  unfold addD
  rw [h]
  exact form_worth hd
theorem cut2 (g : Nat) (x : Int) (hx : (x == 0) = false) (w : World) (h0 : w.cell? ⟨g, 0, none⟩ = some (.int .u32 x)) (h1 : w.cell? ⟨g, 1, none⟩ = some (.int .u32 0)) : Calls Tryd.prog 78 #[.slice (some ⟨g, 0, none⟩) 2 2] w fun en w' => en = .returned (.slice (some ⟨g, 0, none⟩) 1 1) ∧ w = w' := by
  go_enter Tryd.func78, Tryd.ntmps78
  go_wp2
  go_loop [3] (fun t => t = .int .i64 2 ∨ t = .int .i64 1) (fun t => (intOf t).toNat)
  case atStart => exact .inl rfl
  case round =>
    rcases hrel with rfl | rfl
    · go_wp2
      go_round
      case rel => exact .inr rfl
      case measure => simp [intOf]
    · go_wp2
      go_ret
      exact ⟨rfl, rfl⟩
theorem lof (x : Int) (hx : x = 1 ∨ x = 3 ∨ x = 4 ∨ x = 7) (w : World) : Calls Tryd.prog 66 #[.int .u64 x] w fun en w' => ∃ g, en = .returned (.slice (some ⟨g, 0, none⟩) 1 1) ∧ OwnR w' w.heap.size 76 (some ⟨g, 0, none⟩) 1 (ints .u32 [x.toNat]) ∧ Below w.heap.size w w' := by
  obtain ⟨V, hV⟩ : ∃ V, V = w.alloc (.cells #[.int .u32 x, .int .u32 0] 76) := ⟨_, rfl⟩
  have hB : Below w.heap.size w V := by rw [hV]; exact (Below.refl _ _).alloc (Nat.le_refl _) _
  have kb : Blk V w.heap.size 76 #[.int .u32 x, .int .u32 0] := by rw [hV]; exact Blk.new _ _ _
  have hx0 : (x == 0) = false := by rcases hx with rfl | rfl | rfl | rfl <;> rfl
  have hc := cut2 w.heap.size x hx0 V (by rw [kb.cell]; rfl) (by rw [kb.cell]; rfl)
  have ho : OwnR V w.heap.size 76 (some ⟨w.heap.size, 0, none⟩) 1 (ints .u32 [x.toNat]) := ⟨rfl, fun _ => ⟨w.heap.size, _, rfl, Nat.le_refl _, kb, by rcases hx with rfl | rfl | rfl | rfl <;> rfl⟩⟩
  rcases hx with rfl | rfl | rfl | rfl
  all_goals
    go_enter Tryd.func66, Tryd.ntmps66
    go_wp2_with fail
    rw [← hV]
    clear hV
    refine hc.mono ?_
    rintro en w1 ⟨rfl, rfl⟩
    go_wp2
    go_ret
    exact ⟨_, rfl, ho, hB⟩
theorem dof (x : Int) (hx : x = 1 ∨ x = 3 ∨ x = 4 ∨ x = 7) (w : World) : Calls Tryd.prog 49 #[.int .i64 x] w fun en w' => ∃ g, en = .returned (.agg #[.bool false, .slice (some ⟨g, 0, none⟩) 1 1, .int .i64 0]) ∧ OwnR w' w.heap.size 76 (some ⟨g, 0, none⟩) 1 (ints .u32 [x.toNat]) ∧ Below w.heap.size w w' := by
  obtain ⟨V, hV⟩ : ∃ V, V = w.alloc (.cells #[.bool false, .slice none 0 0, .int .i64 0] 25) := ⟨_, rfl⟩
  have hB : Below w.heap.size w V := by rw [hV]; exact (Below.refl _ _).alloc (Nat.le_refl _) _
  have kb : Blk V w.heap.size 25 #[.bool false, .slice none 0 0, .int .i64 0] := by rw [hV]; exact Blk.new _ _ _
  have hc := lof x hx V
  rcases hx with rfl | rfl | rfl | rfl
  all_goals
    go_enter Tryd.func49, Tryd.ntmps49
    go_wp2_with fail
    rw [← hV]
    clear hV
    refine hc.mono ?_
    rintro en w1 ⟨g, rfl, ho, hb1⟩
    have k1 := kb.below hb1 kb.lt
    have z0 : w1.cell? ⟨w.heap.size, 0, none⟩ = some (.bool false) := by rw [k1.cell]; rfl
    have z1 : w1.cell? ⟨w.heap.size, 1, none⟩ = some (.slice none 0 0) := by rw [k1.cell]; rfl
    have z2 : w1.cell? ⟨w.heap.size, 2, none⟩ = some (.int .i64 0) := by rw [k1.cell]; rfl
    have f0 := k1.frozen 0
    have f1 := k1.frozen 1
    have f2 := k1.frozen 2
    have l1 := k1.lt
    have ho' := Lib.hid ho
    go_wp2
    obtain ⟨W9, hW9⟩ : ∃ W9, W9 = (((w1.setCell ⟨w.heap.size, 0, none⟩ (.bool false)).setCell ⟨w.heap.size, 1, none⟩ (.slice (some ⟨g, 0, none⟩) 1 1)).setCell ⟨w.heap.size, 2, none⟩ (.int .i64 0)).alloc (.cells #[.bool false, .slice (some ⟨g, 0, none⟩) 1 1, .int .i64 0] 25) := ⟨_, rfl⟩
    have k9 : Blk W9 w.heap.size 25 #[.bool false, .slice (some ⟨g, 0, none⟩) 1 1, .int .i64 0] := by
      have h0 := k1.set_ 0 (.bool false)
      have h1 := h0.set_ 1 (.slice (some ⟨g, 0, none⟩) 1 1)
      have h2 := h1.set_ 2 (.int .i64 0)
      rw [hW9]; exact (show Blk _ _ _ _ from by simpa using h2).alloc _
    have hb9 : Below w.heap.size w W9 := by rw [hW9]; exact ((((hB.trans (hb1.mono hB.size)).setCell (p := ⟨w.heap.size, 0, none⟩) (Nat.le_refl _) _).setCell (p := ⟨w.heap.size, 1, none⟩) (Nat.le_refl _) _).setCell (p := ⟨w.heap.size, 2, none⟩) (Nat.le_refl _) _).alloc (by simp only [World.size_setCell]; omega) _
    have hlt : w.heap.size < V.heap.size := kb.lt
    have ho9 : ∀ xs, OwnR w1 V.heap.size 76 (some ⟨g, 0, none⟩) 1 xs → OwnR W9 w.heap.size 76 (some ⟨g, 0, none⟩) 1 xs := fun xs ho => by rw [hW9]; exact ((((ho.far (p := ⟨w.heap.size, 0, none⟩) hlt _).far (p := ⟨w.heap.size, 1, none⟩) hlt _).far (p := ⟨w.heap.size, 2, none⟩) hlt _).below ((Below.refl _ _).alloc (Nat.le_refl _) _)).base_le (Nat.le_of_lt hlt)
    rw [← hW9]
    clear hW9
    have q0 : W9.cell? ⟨w.heap.size, 0, none⟩ = some (.bool false) := by rw [k9.cell]; rfl
    have q1 : W9.cell? ⟨w.heap.size, 1, none⟩ = some (.slice (some ⟨g, 0, none⟩) 1 1) := by rw [k9.cell]; rfl
    have q2 : W9.cell? ⟨w.heap.size, 2, none⟩ = some (.int .i64 0) := by rw [k9.cell]; rfl
    refine ⟨rfl, .agg #[.bool false, .slice (some ⟨g, 0, none⟩) 1 1, .int .i64 0], ?_, g, rfl, ho9 _ ho'.out, hb9⟩
    simp [results, Tryd.f49, go_sem, q0, q1, q2]
/-- So much, as a mass. -/
def ofM (x : Nat) : Ms := ⟨⟨false, [x], 0⟩, ⟨false, [], 0⟩, ⟨false, [], 0⟩, ⟨false, [], 0⟩⟩
theorem of_any (x : Int) (hx : x = 1 ∨ x = 3 ∨ x = 4 ∨ x = 7) (w : World) : Calls Tryd.prog 24 #[.int .i64 x] w fun en w' => ∃ o : MB, en = .returned (.agg #[.bool o.m.s.neg, .slice o.X0 o.m.s.ls.length o.c0, .int .i64 o.m.s.ex, .bool o.m.w.neg, .slice o.X1 o.m.w.ls.length o.c1, .int .i64 o.m.w.ex, .bool o.m.c.neg, .slice o.X2 o.m.c.ls.length o.c2, .int .i64 o.m.c.ex, .bool o.m.a.neg, .slice o.X3 o.m.a.ls.length o.c3, .int .i64 o.m.a.ex]) ∧ o.m = ofM x.toNat ∧ OwM w' w.heap.size o ∧ Below w.heap.size w w' := by
  obtain ⟨V, hV⟩ : ∃ V, V = w.alloc (.cells #[.bool false, .slice none 0 0, .int .i64 0, .bool false, .slice none 0 0, .int .i64 0, .bool false, .slice none 0 0, .int .i64 0, .bool false, .slice none 0 0, .int .i64 0] 27) := ⟨_, rfl⟩
  have hB : Below w.heap.size w V := by rw [hV]; exact (Below.refl _ _).alloc (Nat.le_refl _) _
  have kb : Blk V w.heap.size 27 #[.bool false, .slice none 0 0, .int .i64 0, .bool false, .slice none 0 0, .int .i64 0, .bool false, .slice none 0 0, .int .i64 0, .bool false, .slice none 0 0, .int .i64 0] := by rw [hV]; exact Blk.new _ _ _
  have hc := dof x hx V
  clear hx
  go_enter Tryd.func24, Tryd.ntmps24
  go_wp2_with fail
  rw [← hV]
  clear hV
  refine hc.mono ?_
  rintro en w1 ⟨g0, rfl, ho0, hb1⟩
  clear hc
  have hlt : w.heap.size < V.heap.size := kb.lt
  have s1 := hb1.size
  have kb2 := kb.below hb1 kb.lt
  have hB2 := hB.trans (hb1.mono hB.size)
  have z0 : w1.cell? ⟨w.heap.size, 0, none⟩ = some (.bool false) := by rw [kb2.cell]; rfl
  have z1 : w1.cell? ⟨w.heap.size, 1, none⟩ = some (.slice none 0 0) := by rw [kb2.cell]; rfl
  have z2 : w1.cell? ⟨w.heap.size, 2, none⟩ = some (.int .i64 0) := by rw [kb2.cell]; rfl
  have z3 : w1.cell? ⟨w.heap.size, 3, none⟩ = some (.bool false) := by rw [kb2.cell]; rfl
  have z4 : w1.cell? ⟨w.heap.size, 4, none⟩ = some (.slice none 0 0) := by rw [kb2.cell]; rfl
  have z5 : w1.cell? ⟨w.heap.size, 5, none⟩ = some (.int .i64 0) := by rw [kb2.cell]; rfl
  have z6 : w1.cell? ⟨w.heap.size, 6, none⟩ = some (.bool false) := by rw [kb2.cell]; rfl
  have z7 : w1.cell? ⟨w.heap.size, 7, none⟩ = some (.slice none 0 0) := by rw [kb2.cell]; rfl
  have z8 : w1.cell? ⟨w.heap.size, 8, none⟩ = some (.int .i64 0) := by rw [kb2.cell]; rfl
  have z9 : w1.cell? ⟨w.heap.size, 9, none⟩ = some (.bool false) := by rw [kb2.cell]; rfl
  have z10 : w1.cell? ⟨w.heap.size, 10, none⟩ = some (.slice none 0 0) := by rw [kb2.cell]; rfl
  have z11 : w1.cell? ⟨w.heap.size, 11, none⟩ = some (.int .i64 0) := by rw [kb2.cell]; rfl
  have f0 := kb2.frozen 0
  have f1 := kb2.frozen 1
  have f2 := kb2.frozen 2
  have f3 := kb2.frozen 3
  have f4 := kb2.frozen 4
  have f5 := kb2.frozen 5
  have f6 := kb2.frozen 6
  have f7 := kb2.frozen 7
  have f8 := kb2.frozen 8
  have f9 := kb2.frozen 9
  have f10 := kb2.frozen 10
  have f11 := kb2.frozen 11
  obtain ⟨W9, hW9⟩ : ∃ W9, W9 = (((((((((((w1.setCell ⟨w.heap.size, 0, none⟩ (.bool false)).setCell ⟨w.heap.size, 1, none⟩ (.slice (some ⟨g0, 0, none⟩) 1 1)).setCell ⟨w.heap.size, 2, none⟩ (.int .i64 0)).setCell ⟨w.heap.size, 3, none⟩ (.bool false)).setCell ⟨w.heap.size, 4, none⟩ (.slice none 0 0)).setCell ⟨w.heap.size, 5, none⟩ (.int .i64 0)).setCell ⟨w.heap.size, 6, none⟩ (.bool false)).setCell ⟨w.heap.size, 7, none⟩ (.slice none 0 0)).setCell ⟨w.heap.size, 8, none⟩ (.int .i64 0)).setCell ⟨w.heap.size, 9, none⟩ (.bool false)).setCell ⟨w.heap.size, 10, none⟩ (.slice none 0 0)).setCell ⟨w.heap.size, 11, none⟩ (.int .i64 0) := ⟨_, rfl⟩
  have k9 : Blk W9 w.heap.size 27 #[.bool false, .slice (some ⟨g0, 0, none⟩) 1 1, .int .i64 0, .bool false, .slice none 0 0, .int .i64 0, .bool false, .slice none 0 0, .int .i64 0, .bool false, .slice none 0 0, .int .i64 0] := by rw [hW9]; exact blk12 kb2 (.bool false) (.slice (some ⟨g0, 0, none⟩) 1 1) (.int .i64 0) (.bool false) (.slice none 0 0) (.int .i64 0) (.bool false) (.slice none 0 0) (.int .i64 0) (.bool false) (.slice none 0 0) (.int .i64 0)
  have hb9 : Below w.heap.size w W9 := by rw [hW9]; exact ((((((((((((hB2).setCell (p := ⟨w.heap.size, 0, none⟩) (Nat.le_refl _) _).setCell (p := ⟨w.heap.size, 1, none⟩) (Nat.le_refl _) _).setCell (p := ⟨w.heap.size, 2, none⟩) (Nat.le_refl _) _).setCell (p := ⟨w.heap.size, 3, none⟩) (Nat.le_refl _) _).setCell (p := ⟨w.heap.size, 4, none⟩) (Nat.le_refl _) _).setCell (p := ⟨w.heap.size, 5, none⟩) (Nat.le_refl _) _).setCell (p := ⟨w.heap.size, 6, none⟩) (Nat.le_refl _) _).setCell (p := ⟨w.heap.size, 7, none⟩) (Nat.le_refl _) _).setCell (p := ⟨w.heap.size, 8, none⟩) (Nat.le_refl _) _).setCell (p := ⟨w.heap.size, 9, none⟩) (Nat.le_refl _) _).setCell (p := ⟨w.heap.size, 10, none⟩) (Nat.le_refl _) _).setCell (p := ⟨w.heap.size, 11, none⟩) (Nat.le_refl _) _
  have p0 : OwnR W9 w.heap.size 76 (some ⟨g0, 0, none⟩) 1 (ints .u32 [x.toNat]) := by rw [hW9]; exact (((((((((((((ho0).far (p := ⟨w.heap.size, 0, none⟩) hlt _).far (p := ⟨w.heap.size, 1, none⟩) hlt _).far (p := ⟨w.heap.size, 2, none⟩) hlt _).far (p := ⟨w.heap.size, 3, none⟩) hlt _).far (p := ⟨w.heap.size, 4, none⟩) hlt _).far (p := ⟨w.heap.size, 5, none⟩) hlt _).far (p := ⟨w.heap.size, 6, none⟩) hlt _).far (p := ⟨w.heap.size, 7, none⟩) hlt _).far (p := ⟨w.heap.size, 8, none⟩) hlt _).far (p := ⟨w.heap.size, 9, none⟩) hlt _).far (p := ⟨w.heap.size, 10, none⟩) hlt _).far (p := ⟨w.heap.size, 11, none⟩) hlt _).base_le (Nat.le_of_lt hlt)
  have gown := Lib.hid (show OwM W9 w.heap.size (⟨ofM x.toNat, some ⟨g0, 0, none⟩, 1, none, 0, none, 0, none, 0⟩ : MB) from ⟨⟨Nat.le_refl _, p0⟩, owD_zero _ _, owD_zero _ _, owD_zero _ _⟩)
  clear p0 ho0 kb kb2
  go_wp2
  rw [← hW9]
  clear hW9
  have q0 : W9.cell? ⟨w.heap.size, 0, none⟩ = some (.bool false) := by rw [k9.cell]; rfl
  have q1 : W9.cell? ⟨w.heap.size, 1, none⟩ = some (.slice (some ⟨g0, 0, none⟩) 1 1) := by rw [k9.cell]; rfl
  have q2 : W9.cell? ⟨w.heap.size, 2, none⟩ = some (.int .i64 0) := by rw [k9.cell]; rfl
  have q3 : W9.cell? ⟨w.heap.size, 3, none⟩ = some (.bool false) := by rw [k9.cell]; rfl
  have q4 : W9.cell? ⟨w.heap.size, 4, none⟩ = some (.slice none 0 0) := by rw [k9.cell]; rfl
  have q5 : W9.cell? ⟨w.heap.size, 5, none⟩ = some (.int .i64 0) := by rw [k9.cell]; rfl
  have q6 : W9.cell? ⟨w.heap.size, 6, none⟩ = some (.bool false) := by rw [k9.cell]; rfl
  have q7 : W9.cell? ⟨w.heap.size, 7, none⟩ = some (.slice none 0 0) := by rw [k9.cell]; rfl
  have q8 : W9.cell? ⟨w.heap.size, 8, none⟩ = some (.int .i64 0) := by rw [k9.cell]; rfl
  have q9 : W9.cell? ⟨w.heap.size, 9, none⟩ = some (.bool false) := by rw [k9.cell]; rfl
  have q10 : W9.cell? ⟨w.heap.size, 10, none⟩ = some (.slice none 0 0) := by rw [k9.cell]; rfl
  have q11 : W9.cell? ⟨w.heap.size, 11, none⟩ = some (.int .i64 0) := by rw [k9.cell]; rfl
  refine ⟨rfl, .agg #[.bool false, .slice (some ⟨g0, 0, none⟩) 1 1, .int .i64 0, .bool false, .slice none 0 0, .int .i64 0, .bool false, .slice none 0 0, .int .i64 0, .bool false, .slice none 0 0, .int .i64 0], ?_, _, rfl, rfl, gown.out, hb9⟩
  simp [results, Tryd.f24, go_sem, q0, q1, q2, q3, q4, q5, q6, q7, q8, q9, q10, q11]
end Go.Proofs.YtmppalgecboeeaaDoor
