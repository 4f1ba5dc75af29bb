/- Flight: masses that may be: the program's answer -/
import Derived.Test.YtmppalgecboeeaaDoorLK
import Derived.Test.YtmppalgecboeeaaDoorKA
namespace Go.Proofs.YtmppalgecboeeaaDoor
open Go.Shelf Go.ChangeShapes Go.WideShapes Go.ChangeAt Go.RowKit
set_option linter.unusedSimpArgs false
set_option linter.unusedVariables false
attribute [local go_sem] Oper.semAt_some
set_option maxRecDepth 100000 in
set_option maxHeartbeats 8000000 in
theorem mcheck_any (ag0 : Bool) (aX0 : Option Addr) (an0 ac0 : Nat) (ae0 : Int) (ag1 : Bool) (aX1 : Option Addr) (an1 ac1 : Nat) (ae1 : Int) (ag2 : Bool) (aX2 : Option Addr) (an2 ac2 : Nat) (ae2 : Int) (ag3 : Bool) (aX3 : Option Addr) (an3 ac3 : Nat) (ae3 : Int) (m : Ms) (w : World) (ra : RdM w w.heap.size ag0 aX0 an0 ac0 ae0 ag1 aX1 an1 ac1 ae1 ag2 aX2 an2 ac2 ae2 ag3 aX3 an3 ac3 ae3 m) (R : Bool) (hR : mayM m = R) :
    Calls Tryd.prog 32 #[.agg #[.bool ag0, .slice aX0 an0 ac0, .int .i64 ae0, .bool ag1, .slice aX1 an1 ac1, .int .i64 ae1, .bool ag2, .slice aX2 an2 ac2, .int .i64 ae2, .bool ag3, .slice aX3 an3 ac3, .int .i64 ae3]] w fun en w' => en = .returned (.int .i64 (if R = true then 0 else 8)) ∧ Below w.heap.size w w' := by
  refine (callsIn_wide (n := 6)).1 ?_
  refine callsIn_of_wp_marks Tryd.func32 rfl trivial ?_ rfl
  simp only [Tryd.ntmps32, List.size_toArray, List.length_cons, List.length_nil, Nat.reduceAdd, Nat.reduceSub, Array.replicate_succ, Array.replicate_zero, List.push_toArray, List.append_toArray, List.nil_append, List.cons_append]
  have gra := Lib.hid ra
  have gR := Lib.hid hR
  clear ra hR
  have hpt := parts_any ⟨w.heap.size, 0, none⟩ ⟨w.heap.size, 0, none⟩ ((w.alloc (.cells #[.bool ag0, .slice aX0 an0 ac0, .int .i64 ae0, .bool ag1, .slice aX1 an1 ac1, .int .i64 ae1, .bool ag2, .slice aX2 an2 ac2, .int .i64 ae2, .bool ag3, .slice aX3 an3 ac3, .int .i64 ae3] 27)).alloc (.cells #[.int .i64 0] 32))
  simp only [World.size_alloc] at hpt
  obtain ⟨W5, hW5⟩ : ∃ W5, W5 = ((((w.alloc (.cells #[.bool ag0, .slice aX0 an0 ac0, .int .i64 ae0, .bool ag1, .slice aX1 an1 ac1, .int .i64 ae1, .bool ag2, .slice aX2 an2 ac2, .int .i64 ae2, .bool ag3, .slice aX3 an3 ac3, .int .i64 ae3] 27)).alloc (.cells #[.int .i64 0] 32)).alloc (.cells #[.pointer (some ⟨w.heap.size, 0, none⟩)] 81)).alloc (.cells #[.pointer (some ⟨w.heap.size, 0, none⟩)] 81)) := ⟨_, rfl⟩
  have B0 : Blk W5 w.heap.size 27 #[.bool ag0, .slice aX0 an0 ac0, .int .i64 ae0, .bool ag1, .slice aX1 an1 ac1, .int .i64 ae1, .bool ag2, .slice aX2 an2 ac2, .int .i64 ae2, .bool ag3, .slice aX3 an3 ac3, .int .i64 ae3] := by rw [hW5]; exact (((Blk.new w _ _).alloc _).alloc _).alloc _
  have B2 : Blk W5 (w.heap.size + 1) 32 #[.int .i64 0] := by
    have := ((Blk.new (w.alloc (.cells #[.bool ag0, .slice aX0 an0 ac0, .int .i64 ae0, .bool ag1, .slice aX1 an1 ac1, .int .i64 ae1, .bool ag2, .slice aX2 an2 ac2, .int .i64 ae2, .bool ag3, .slice aX3 an3 ac3, .int .i64 ae3] 27)) 32 #[.int .i64 0]).alloc (.cells #[.pointer (some ⟨w.heap.size, 0, none⟩)] 81)).alloc (.cells #[.pointer (some ⟨w.heap.size, 0, none⟩)] 81)
    rw [World.size_alloc] at this
    rw [hW5]; exact this
  have B3 : Blk W5 (w.heap.size + 2) 81 #[.pointer (some ⟨w.heap.size, 0, none⟩)] := by
    have := (Blk.new ((w.alloc (.cells #[.bool ag0, .slice aX0 an0 ac0, .int .i64 ae0, .bool ag1, .slice aX1 an1 ac1, .int .i64 ae1, .bool ag2, .slice aX2 an2 ac2, .int .i64 ae2, .bool ag3, .slice aX3 an3 ac3, .int .i64 ae3] 27)).alloc (.cells #[.int .i64 0] 32)) 81 #[.pointer (some ⟨w.heap.size, 0, none⟩)]).alloc (.cells #[.pointer (some ⟨w.heap.size, 0, none⟩)] 81)
    simp only [World.size_alloc] at this
    rw [hW5]; exact this
  have B4 : Blk W5 (w.heap.size + 3) 81 #[.pointer (some ⟨w.heap.size, 0, none⟩)] := by
    have := Blk.new (((w.alloc (.cells #[.bool ag0, .slice aX0 an0 ac0, .int .i64 ae0, .bool ag1, .slice aX1 an1 ac1, .int .i64 ae1, .bool ag2, .slice aX2 an2 ac2, .int .i64 ae2, .bool ag3, .slice aX3 an3 ac3, .int .i64 ae3] 27)).alloc (.cells #[.int .i64 0] 32)).alloc (.cells #[.pointer (some ⟨w.heap.size, 0, none⟩)] 81)) 81 #[.pointer (some ⟨w.heap.size, 0, none⟩)]
    simp only [World.size_alloc] at this
    rw [hW5]; exact this
  have hB : Below w.heap.size w W5 := by rw [hW5]; exact ((((Below.refl _ w).alloc (Nat.le_refl _) _).alloc (by simp) _).alloc (by simp; omega) _).alloc (by simp; omega) _
  have sz : W5.heap.size = w.heap.size + 4 := by rw [hW5]; simp
  have gsz := Lib.hid sz
  gi_wp2_with (refine ⟨trivial, ?_⟩; gi_at_call 50; refine (callsIn_wide.2 hpt).mono ?_; rintro e W' ⟨rfl, rfl⟩)
  rw [← hW5]
  clear hW5 hpt sz
  have q3 := B3.cell 0
  have q4 := B4.cell 0
  simp only [List.getElem?_toArray, List.getElem?_cons_zero] at q3 q4
  refine wpIn_rangeFunc_ownF rfl (by omega) (gf := 67) (lb := #[.pointer (some ⟨w.heap.size + 2, 0, none⟩), .pointer (some ⟨w.heap.size + 3, 0, none⟩)]) rfl trivial (enters_of Tryd.func67 (by kernel_rfl) rfl)
    (parts_seq _ _ _ _ _ (by omega) W5 q3 q4) kpM_t (kpM_b (by rw [gsz.out]; omega) (by rw [gsz.out]; omega)) (Below.refl _ _) (fun _ => rfl)
    (fun pre W => (Hid (∀ y ∈ pre, mayd (prt m y.1) = true) ∧ Blk W w.heap.size 27 #[.bool ag0, .slice aX0 an0 ac0, .int .i64 ae0, .bool ag1, .slice aX1 an1 ac1, .int .i64 ae1, .bool ag2, .slice aX2 an2 ac2, .int .i64 ae2, .bool ag3, .slice aX3 an3 ac3, .int .i64 ae3] ∧ Blk W (w.heap.size + 1) 32 #[.int .i64 0] ∧ Blk W (w.heap.size + 2) 81 #[.pointer (some ⟨w.heap.size, 0, none⟩)] ∧ Blk W (w.heap.size + 3) 81 #[.pointer (some ⟨w.heap.size, 0, none⟩)]) ∧ Below w.heap.size w W)
    (fun c pre W => (c = .ret ∧ Hid (mayM m = false) ∧ Blk W (w.heap.size + 1) 32 #[.int .i64 8]) ∧ Below w.heap.size w W)
    (OwnFrom.and (Own.from (fun s A B row hs hg hr => ⟨hs.1, blk_own (β := List P4) _ _ (fun _ => _) s A B row hs.2.1 hg hr, blk_own (β := List P4) _ _ (fun _ => _) s A B row hs.2.2.1 hg hr, blk_own (β := List P4) _ _ (fun _ => _) s A B row hs.2.2.2.1 hg hr, blk_own (β := List P4) _ _ (fun _ => _) s A B row hs.2.2.2.2 hg hr⟩) _) (ownFrom_below (Nat.le_refl _) (by rw [gsz.out]; omega)))
    (fun c => OwnFrom.and (Own.from (fun s A B row hs hg hr => ⟨hs.1, hs.2.1, blk_own (β := List P4) _ _ (fun _ => _) s A B row hs.2.2 hg hr⟩) _) (ownFrom_below (Nat.le_refl _) (by rw [gsz.out]; omega)))
    ⟨⟨Lib.hid (fun y hy => by cases hy), B0, B2, B3, B4⟩, hB⟩
    (fun x => { tmps := #[.agg #[.bool ag0, .slice aX0 an0 ac0, .int .i64 ae0, .bool ag1, .slice aX1 an1 ac1, .int .i64 ae1, .bool ag2, .slice aX2 an2 ac2, .int .i64 ae2, .bool ag3, .slice aX3 an3 ac3, .int .i64 ae3], .pointer (some ⟨w.heap.size, 0, none⟩), .pointer (some ⟨w.heap.size + 1, 0, none⟩), .pointer (some ⟨w.heap.size, 3 * x.1, none⟩), undef, .func (.func 67) #[] #[.pointer (some ⟨w.heap.size + 2, 0, none⟩), .pointer (some ⟨w.heap.size + 3, 0, none⟩)], .pointer (some ⟨w.heap.size, 3 * x.1, none⟩), .pointer (some ⟨w.heap.size, 3 * x.1, none⟩), undef, undef, undef, undef, undef, undef, undef], defers := [] }) ?assign ?body ?done ?stop
  case assign =>
    intro l x W K hK
    gi_wp2
    exact hK
  case body =>
    rintro l pre ⟨i, hi⟩ W ⟨⟨h1, h2, h4, h5, h6⟩, hW⟩ _
    have hi4 : i = 0 ∨ i = 1 ∨ i = 2 ∨ i = 3 := by omega
    rcases hi4 with rfl | rfl | rfl | rfl
    · have x0 := h2.cell 0
      have x1 := h2.cell 1
      have x2 := h2.cell 2
      simp only [List.getElem?_toArray, List.getElem?_cons_zero, List.getElem?_cons_succ] at x0 x1 x2
      obtain ⟨Q, hQ⟩ : ∃ Q, mayd m.s = Q := ⟨_, rfl⟩
      have hd := dcheck_d ag0 aX0 an0 ac0 ae0 m.s Q hQ W (gra.out.1.below hW hW.size)
      have gQ := Lib.hid hQ
      clear hQ
      cases Q with
      | true =>
        gi_wp2_with (refine ⟨trivial, ?_⟩; gi_at_call 56; refine (callsIn_wide.2 hd).mono ?_; rintro e w2 ⟨rfl, hb2⟩)
        have hg : W.grownBy w2 none := ⟨hb2.os, hb2.tape, hb2.output, hb2.size, fun k hk _ => hb2.block k hk⟩
        exact ⟨KeepsOthers.of_grownBy hg (fun j o e ho => by cases e), ⟨hb2.cell (p := ⟨w.heap.size + 2, 0, none⟩) h5.lt, hb2.cell (p := ⟨w.heap.size + 3, 0, none⟩) h6.lt⟩, ⟨Lib.hid (fun y hy => (List.mem_append.1 hy).elim (h1.out y) (fun h => by rw [List.mem_singleton.1 h]; exact gQ.out)), h2.below hb2 h2.lt, h4.below hb2 h4.lt, h5.below hb2 h5.lt, h6.below hb2 h6.lt⟩, hW.trans (hb2.mono hW.size)⟩
      | false =>
        gi_wp2_with (refine ⟨trivial, ?_⟩; gi_at_call 56; refine (callsIn_wide.2 hd).mono ?_; rintro e w2 ⟨rfl, hb2⟩; have d0 := (h4.below hb2 h4.lt).cell 0; have f0 := (h4.below hb2 h4.lt).frozen 0; simp only [List.getElem?_toArray, List.getElem?_cons_zero] at d0)
        have hg : W.grownBy w2 none := ⟨hb2.os, hb2.tape, hb2.output, hb2.size, fun k hk _ => hb2.block k hk⟩
        have h8 := (h4.below hb2 h4.lt).set_ 0 (.int .i64 8)
        simp at h8
        exact ⟨(KeepsOthers.of_grownBy hg (fun j o e ho => by cases e)).trans (KeepsOthers.setCell w2 ⟨w.heap.size + 1, 0, none⟩ _), ⟨rfl, Lib.hid (by unfold mayM; simp [gQ.out]), h8⟩, (hW.trans (hb2.mono hW.size)).setCell (p := ⟨w.heap.size + 1, 0, none⟩) (by simp) _⟩
    · have x0 := h2.cell 3
      have x1 := h2.cell 4
      have x2 := h2.cell 5
      simp only [List.getElem?_toArray, List.getElem?_cons_zero, List.getElem?_cons_succ] at x0 x1 x2
      obtain ⟨Q, hQ⟩ : ∃ Q, mayd m.w = Q := ⟨_, rfl⟩
      have hd := dcheck_d ag1 aX1 an1 ac1 ae1 m.w Q hQ W (gra.out.2.1.below hW hW.size)
      have gQ := Lib.hid hQ
      clear hQ
      cases Q with
      | true =>
        gi_wp2_with (refine ⟨trivial, ?_⟩; gi_at_call 56; refine (callsIn_wide.2 hd).mono ?_; rintro e w2 ⟨rfl, hb2⟩)
        have hg : W.grownBy w2 none := ⟨hb2.os, hb2.tape, hb2.output, hb2.size, fun k hk _ => hb2.block k hk⟩
        exact ⟨KeepsOthers.of_grownBy hg (fun j o e ho => by cases e), ⟨hb2.cell (p := ⟨w.heap.size + 2, 0, none⟩) h5.lt, hb2.cell (p := ⟨w.heap.size + 3, 0, none⟩) h6.lt⟩, ⟨Lib.hid (fun y hy => (List.mem_append.1 hy).elim (h1.out y) (fun h => by rw [List.mem_singleton.1 h]; exact gQ.out)), h2.below hb2 h2.lt, h4.below hb2 h4.lt, h5.below hb2 h5.lt, h6.below hb2 h6.lt⟩, hW.trans (hb2.mono hW.size)⟩
      | false =>
        gi_wp2_with (refine ⟨trivial, ?_⟩; gi_at_call 56; refine (callsIn_wide.2 hd).mono ?_; rintro e w2 ⟨rfl, hb2⟩; have d0 := (h4.below hb2 h4.lt).cell 0; have f0 := (h4.below hb2 h4.lt).frozen 0; simp only [List.getElem?_toArray, List.getElem?_cons_zero] at d0)
        have hg : W.grownBy w2 none := ⟨hb2.os, hb2.tape, hb2.output, hb2.size, fun k hk _ => hb2.block k hk⟩
        have h8 := (h4.below hb2 h4.lt).set_ 0 (.int .i64 8)
        simp at h8
        exact ⟨(KeepsOthers.of_grownBy hg (fun j o e ho => by cases e)).trans (KeepsOthers.setCell w2 ⟨w.heap.size + 1, 0, none⟩ _), ⟨rfl, Lib.hid (by unfold mayM; simp [gQ.out]), h8⟩, (hW.trans (hb2.mono hW.size)).setCell (p := ⟨w.heap.size + 1, 0, none⟩) (by simp) _⟩
    · have x0 := h2.cell 6
      have x1 := h2.cell 7
      have x2 := h2.cell 8
      simp only [List.getElem?_toArray, List.getElem?_cons_zero, List.getElem?_cons_succ] at x0 x1 x2
      obtain ⟨Q, hQ⟩ : ∃ Q, mayd m.c = Q := ⟨_, rfl⟩
      have hd := dcheck_d ag2 aX2 an2 ac2 ae2 m.c Q hQ W (gra.out.2.2.1.below hW hW.size)
      have gQ := Lib.hid hQ
      clear hQ
      cases Q with
      | true =>
        gi_wp2_with (refine ⟨trivial, ?_⟩; gi_at_call 56; refine (callsIn_wide.2 hd).mono ?_; rintro e w2 ⟨rfl, hb2⟩)
        have hg : W.grownBy w2 none := ⟨hb2.os, hb2.tape, hb2.output, hb2.size, fun k hk _ => hb2.block k hk⟩
        exact ⟨KeepsOthers.of_grownBy hg (fun j o e ho => by cases e), ⟨hb2.cell (p := ⟨w.heap.size + 2, 0, none⟩) h5.lt, hb2.cell (p := ⟨w.heap.size + 3, 0, none⟩) h6.lt⟩, ⟨Lib.hid (fun y hy => (List.mem_append.1 hy).elim (h1.out y) (fun h => by rw [List.mem_singleton.1 h]; exact gQ.out)), h2.below hb2 h2.lt, h4.below hb2 h4.lt, h5.below hb2 h5.lt, h6.below hb2 h6.lt⟩, hW.trans (hb2.mono hW.size)⟩
      | false =>
        gi_wp2_with (refine ⟨trivial, ?_⟩; gi_at_call 56; refine (callsIn_wide.2 hd).mono ?_; rintro e w2 ⟨rfl, hb2⟩; have d0 := (h4.below hb2 h4.lt).cell 0; have f0 := (h4.below hb2 h4.lt).frozen 0; simp only [List.getElem?_toArray, List.getElem?_cons_zero] at d0)
        have hg : W.grownBy w2 none := ⟨hb2.os, hb2.tape, hb2.output, hb2.size, fun k hk _ => hb2.block k hk⟩
        have h8 := (h4.below hb2 h4.lt).set_ 0 (.int .i64 8)
        simp at h8
        exact ⟨(KeepsOthers.of_grownBy hg (fun j o e ho => by cases e)).trans (KeepsOthers.setCell w2 ⟨w.heap.size + 1, 0, none⟩ _), ⟨rfl, Lib.hid (by unfold mayM; simp [gQ.out]), h8⟩, (hW.trans (hb2.mono hW.size)).setCell (p := ⟨w.heap.size + 1, 0, none⟩) (by simp) _⟩
    · have x0 := h2.cell 9
      have x1 := h2.cell 10
      have x2 := h2.cell 11
      simp only [List.getElem?_toArray, List.getElem?_cons_zero, List.getElem?_cons_succ] at x0 x1 x2
      obtain ⟨Q, hQ⟩ : ∃ Q, mayd m.a = Q := ⟨_, rfl⟩
      have hd := dcheck_d ag3 aX3 an3 ac3 ae3 m.a Q hQ W (gra.out.2.2.2.below hW hW.size)
      have gQ := Lib.hid hQ
      clear hQ
      cases Q with
      | true =>
        gi_wp2_with (refine ⟨trivial, ?_⟩; gi_at_call 56; refine (callsIn_wide.2 hd).mono ?_; rintro e w2 ⟨rfl, hb2⟩)
        have hg : W.grownBy w2 none := ⟨hb2.os, hb2.tape, hb2.output, hb2.size, fun k hk _ => hb2.block k hk⟩
        exact ⟨KeepsOthers.of_grownBy hg (fun j o e ho => by cases e), ⟨hb2.cell (p := ⟨w.heap.size + 2, 0, none⟩) h5.lt, hb2.cell (p := ⟨w.heap.size + 3, 0, none⟩) h6.lt⟩, ⟨Lib.hid (fun y hy => (List.mem_append.1 hy).elim (h1.out y) (fun h => by rw [List.mem_singleton.1 h]; exact gQ.out)), h2.below hb2 h2.lt, h4.below hb2 h4.lt, h5.below hb2 h5.lt, h6.below hb2 h6.lt⟩, hW.trans (hb2.mono hW.size)⟩
      | false =>
        gi_wp2_with (refine ⟨trivial, ?_⟩; gi_at_call 56; refine (callsIn_wide.2 hd).mono ?_; rintro e w2 ⟨rfl, hb2⟩; have d0 := (h4.below hb2 h4.lt).cell 0; have f0 := (h4.below hb2 h4.lt).frozen 0; simp only [List.getElem?_toArray, List.getElem?_cons_zero] at d0)
        have hg : W.grownBy w2 none := ⟨hb2.os, hb2.tape, hb2.output, hb2.size, fun k hk _ => hb2.block k hk⟩
        have h8 := (h4.below hb2 h4.lt).set_ 0 (.int .i64 8)
        simp at h8
        exact ⟨(KeepsOthers.of_grownBy hg (fun j o e ho => by cases e)).trans (KeepsOthers.setCell w2 ⟨w.heap.size + 1, 0, none⟩ _), ⟨rfl, Lib.hid (by unfold mayM; simp [gQ.out]), h8⟩, (hW.trans (hb2.mono hW.size)).setCell (p := ⟨w.heap.size + 1, 0, none⟩) (by simp) _⟩
  case done =>
    rintro D ys W hD rfl ⟨⟨h1, h2, h4, _, _⟩, hW⟩ hK
    have hmk : mayM m = true := by
      have h := h1.out
      have e0 := h p0 (by simp)
      have e1 := h p1 (by simp)
      have e2 := h p2 (by simp)
      have e3 := h p3 (by simp)
      unfold mayM
      simp only [prt, p0, p1, p2, p3] at e0 e1 e2 e3
      rw [e0, e1, e2, e3]; rfl
    obtain rfl : true = R := by rw [← gR.out]; exact hmk.symm
    clear hmk gR
    have d0 := h4.cell 0
    have f0 := h4.frozen 0
    simp only [List.getElem?_toArray, List.getElem?_cons_zero] at d0
    have hD' : w.heap.size + 4 ≤ D := by rw [gsz.out] at hD; exact hD
    have hDl : D < W.heap.size := (Array.getElem?_eq_some_iff.1 hK).1
    have hK2 := (KeepsOthers.setCell W ⟨w.heap.size + 1, 0, none⟩ (.int .i64 0)).same D _ hK rfl
    have B5 := h4.set_ 0 (.int .i64 0)
    have B6 := B5.grown (grownBy_putObj' _ D (.deferred none)) (by simp; omega)
    have q0 := B6.cell 0
    simp at q0
    clear B5 B6 h1 h2 h4
    gi_wp2
    refine ⟨by simp, .inl ⟨_, _, rfl, run_takeDeferred hK2, ?_⟩⟩
    refine ⟨.int .i64 0, ?_, rfl, (hW.setCell (p := ⟨w.heap.size + 1, 0, none⟩) (by simp) _).trans (belowK_b (w := w) (Nat.le_refl _) _ D _ _ (by omega) hK2 rfl rfl)⟩
    simp [results, Tryd.f32, go_sem, q0]
  case stop =>
    rintro D c pre W hD _ ⟨⟨rfl, h1, h2⟩, hW⟩ hK
    obtain rfl : false = R := by rw [← gR.out]; exact h1.out.symm
    clear gR
    have hDl : D < W.heap.size := (Array.getElem?_eq_some_iff.1 hK).1
    have hD' : w.heap.size + 4 ≤ D := by rw [gsz.out] at hD; exact hD
    have B6 := h2.grown (grownBy_putObj' _ D (.deferred none)) (by simp; omega)
    have q0 := B6.cell 0
    simp at q0
    clear B6 h1 h2
    gi_wp2
    refine ⟨by simp, .inl ⟨_, _, rfl, run_takeDeferred hK, ?_⟩⟩
    refine ⟨.int .i64 8, ?_, rfl, hW.trans (belowK_b (w := w) (Nat.le_refl _) _ D _ _ (by omega) hK rfl rfl)⟩
    simp [results, Tryd.f32, go_sem, q0]
end Go.Proofs.YtmppalgecboeeaaDoor
