/- Flight: masses that may be: the program's answer | Mail: descriptors that may be | Mail: two rows of descriptors, compared | Mail: least tags that may be | Mail: nodes | Mail: mails by value | Mail: an argument that is a mail, opened | Mail: mail.Same -/
import Derived.Deep.QuietTactic
import Derived.BigQuiet
import Derived.Deep.Draws
import Derived.Deep.Fields
import Derived.Deep.Strs
import Derived.Deep.SlicePairs
import Derived.Lib.SmallJoins
import Derived.Test.YtjmhefkmpfkpbaaLK
import Derived.Test.YtjmhefkmpfkpbaaKA
import Derived.Test.YtjmhefkmpfkpbaaZR
import Derived.Test.YtjmhefkmpfkpbaaMDG
import Derived.Test.YtjmhefkmpfkpbaaGX
namespace Go.Proofs.Ytjmhefkmpfkpbaa
open Go.Shelf Go.ChangeShapes Go.WideShapes Go.ChangeAt Go.RowKit
set_option linter.unusedSimpArgs false
set_option linter.unusedVariables false
attribute [local go_sem] Oper.semAt_some
set_option maxRecDepth 100000 in
set_option maxHeartbeats 8000000 in
theorem mcheck_any (ag0 : Bool) (aX0 : Option Addr) (an0 ac0 : Nat) (ae0 : Int) (ag1 : Bool) (aX1 : Option Addr) (an1 ac1 : Nat) (ae1 : Int) (ag2 : Bool) (aX2 : Option Addr) (an2 ac2 : Nat) (ae2 : Int) (ag3 : Bool) (aX3 : Option Addr) (an3 ac3 : Nat) (ae3 : Int) (m : Ms) (w : World) (ra : RdM w w.heap.size ag0 aX0 an0 ac0 ae0 ag1 aX1 an1 ac1 ae1 ag2 aX2 an2 ac2 ae2 ag3 aX3 an3 ac3 ae3 m) (R : Bool) (hR : mayM m = R) :
    Calls Try.prog 41 #[.agg #[.bool ag0, .slice aX0 an0 ac0, .int .i64 ae0, .bool ag1, .slice aX1 an1 ac1, .int .i64 ae1, .bool ag2, .slice aX2 an2 ac2, .int .i64 ae2, .bool ag3, .slice aX3 an3 ac3, .int .i64 ae3]] w fun en w' => en = .returned (.int .i64 (if R = true then 0 else 8)) ∧ Below w.heap.size w w' := by
  refine (callsIn_wide (n := 6)).1 ?_
  refine callsIn_of_wp_marks Try.func41 rfl trivial ?_ rfl
  simp only [Try.ntmps41, List.size_toArray, List.length_cons, List.length_nil, Nat.reduceAdd, Nat.reduceSub, Array.replicate_succ, Array.replicate_zero, List.push_toArray, List.append_toArray, List.nil_append, List.cons_append]
  have gra := Lib.hid ra
  have gR := Lib.hid hR
  clear ra hR
  have hpt := parts_any ⟨w.heap.size, 0, none⟩ ⟨w.heap.size, 0, none⟩ ((w.alloc (.cells #[.bool ag0, .slice aX0 an0 ac0, .int .i64 ae0, .bool ag1, .slice aX1 an1 ac1, .int .i64 ae1, .bool ag2, .slice aX2 an2 ac2, .int .i64 ae2, .bool ag3, .slice aX3 an3 ac3, .int .i64 ae3] 26)).alloc (.cells #[.int .i64 0] 35))
  simp only [World.size_alloc] at hpt
  obtain ⟨W5, hW5⟩ : ∃ W5, W5 = ((((w.alloc (.cells #[.bool ag0, .slice aX0 an0 ac0, .int .i64 ae0, .bool ag1, .slice aX1 an1 ac1, .int .i64 ae1, .bool ag2, .slice aX2 an2 ac2, .int .i64 ae2, .bool ag3, .slice aX3 an3 ac3, .int .i64 ae3] 26)).alloc (.cells #[.int .i64 0] 35)).alloc (.cells #[.pointer (some ⟨w.heap.size, 0, none⟩)] 99)).alloc (.cells #[.pointer (some ⟨w.heap.size, 0, none⟩)] 99)) := ⟨_, rfl⟩
  have B0 : Blk W5 w.heap.size 26 #[.bool ag0, .slice aX0 an0 ac0, .int .i64 ae0, .bool ag1, .slice aX1 an1 ac1, .int .i64 ae1, .bool ag2, .slice aX2 an2 ac2, .int .i64 ae2, .bool ag3, .slice aX3 an3 ac3, .int .i64 ae3] := by rw [hW5]; exact (((Blk.new w _ _).alloc _).alloc _).alloc _
  have B2 : Blk W5 (w.heap.size + 1) 35 #[.int .i64 0] := by
    have := ((Blk.new (w.alloc (.cells #[.bool ag0, .slice aX0 an0 ac0, .int .i64 ae0, .bool ag1, .slice aX1 an1 ac1, .int .i64 ae1, .bool ag2, .slice aX2 an2 ac2, .int .i64 ae2, .bool ag3, .slice aX3 an3 ac3, .int .i64 ae3] 26)) 35 #[.int .i64 0]).alloc (.cells #[.pointer (some ⟨w.heap.size, 0, none⟩)] 99)).alloc (.cells #[.pointer (some ⟨w.heap.size, 0, none⟩)] 99)
    rw [World.size_alloc] at this
    rw [hW5]; exact this
  have B3 : Blk W5 (w.heap.size + 2) 99 #[.pointer (some ⟨w.heap.size, 0, none⟩)] := by
    have := (Blk.new ((w.alloc (.cells #[.bool ag0, .slice aX0 an0 ac0, .int .i64 ae0, .bool ag1, .slice aX1 an1 ac1, .int .i64 ae1, .bool ag2, .slice aX2 an2 ac2, .int .i64 ae2, .bool ag3, .slice aX3 an3 ac3, .int .i64 ae3] 26)).alloc (.cells #[.int .i64 0] 35)) 99 #[.pointer (some ⟨w.heap.size, 0, none⟩)]).alloc (.cells #[.pointer (some ⟨w.heap.size, 0, none⟩)] 99)
    simp only [World.size_alloc] at this
    rw [hW5]; exact this
  have B4 : Blk W5 (w.heap.size + 3) 99 #[.pointer (some ⟨w.heap.size, 0, none⟩)] := by
    have := Blk.new (((w.alloc (.cells #[.bool ag0, .slice aX0 an0 ac0, .int .i64 ae0, .bool ag1, .slice aX1 an1 ac1, .int .i64 ae1, .bool ag2, .slice aX2 an2 ac2, .int .i64 ae2, .bool ag3, .slice aX3 an3 ac3, .int .i64 ae3] 26)).alloc (.cells #[.int .i64 0] 35)).alloc (.cells #[.pointer (some ⟨w.heap.size, 0, none⟩)] 99)) 99 #[.pointer (some ⟨w.heap.size, 0, none⟩)]
    simp only [World.size_alloc] at this
    rw [hW5]; exact this
  have hB : Below w.heap.size w W5 := by rw [hW5]; exact ((((Below.refl _ w).alloc (Nat.le_refl _) _).alloc (by simp) _).alloc (by simp; omega) _).alloc (by simp; omega) _
  have sz : W5.heap.size = w.heap.size + 4 := by rw [hW5]; simp
  have gsz := Lib.hid sz
  gi_wp2_with (refine ⟨trivial, ?_⟩; gi_at_call 56; refine (callsIn_wide.2 hpt).mono ?_; rintro e W' ⟨rfl, rfl⟩)
  rw [← hW5]
  clear hW5 hpt sz
  have q3 := B3.cell 0
  have q4 := B4.cell 0
  simp only [List.getElem?_toArray, List.getElem?_cons_zero] at q3 q4
  refine wpIn_rangeFunc_ownF rfl (by omega) (gf := 84) (lb := #[.pointer (some ⟨w.heap.size + 2, 0, none⟩), .pointer (some ⟨w.heap.size + 3, 0, none⟩)]) rfl trivial (enters_of Try.func84 (by kernel_rfl) rfl)
    (parts_seq _ _ _ _ _ (by omega) W5 q3 q4) kpM_t (kpM_b (by rw [gsz.out]; omega) (by rw [gsz.out]; omega)) (Below.refl _ _) (fun _ => rfl)
    (fun pre W => (Hid (∀ y ∈ pre, mayd (prt m y.1) = true) ∧ Blk W w.heap.size 26 #[.bool ag0, .slice aX0 an0 ac0, .int .i64 ae0, .bool ag1, .slice aX1 an1 ac1, .int .i64 ae1, .bool ag2, .slice aX2 an2 ac2, .int .i64 ae2, .bool ag3, .slice aX3 an3 ac3, .int .i64 ae3] ∧ Blk W (w.heap.size + 1) 35 #[.int .i64 0] ∧ Blk W (w.heap.size + 2) 99 #[.pointer (some ⟨w.heap.size, 0, none⟩)] ∧ Blk W (w.heap.size + 3) 99 #[.pointer (some ⟨w.heap.size, 0, none⟩)]) ∧ Below w.heap.size w W)
    (fun c pre W => (c = .ret ∧ Hid (mayM m = false) ∧ Blk W (w.heap.size + 1) 35 #[.int .i64 8]) ∧ Below w.heap.size w W)
    (OwnFrom.and (Own.from (fun s A B row hs hg hr => ⟨hs.1, blk_own (β := List P4) _ _ (fun _ => _) s A B row hs.2.1 hg hr, blk_own (β := List P4) _ _ (fun _ => _) s A B row hs.2.2.1 hg hr, blk_own (β := List P4) _ _ (fun _ => _) s A B row hs.2.2.2.1 hg hr, blk_own (β := List P4) _ _ (fun _ => _) s A B row hs.2.2.2.2 hg hr⟩) _) (ownFrom_below (Nat.le_refl _) (by rw [gsz.out]; omega)))
    (fun c => OwnFrom.and (Own.from (fun s A B row hs hg hr => ⟨hs.1, hs.2.1, blk_own (β := List P4) _ _ (fun _ => _) s A B row hs.2.2 hg hr⟩) _) (ownFrom_below (Nat.le_refl _) (by rw [gsz.out]; omega)))
    ⟨⟨Lib.hid (fun y hy => by cases hy), B0, B2, B3, B4⟩, hB⟩
    (fun x => { tmps := #[.agg #[.bool ag0, .slice aX0 an0 ac0, .int .i64 ae0, .bool ag1, .slice aX1 an1 ac1, .int .i64 ae1, .bool ag2, .slice aX2 an2 ac2, .int .i64 ae2, .bool ag3, .slice aX3 an3 ac3, .int .i64 ae3], .pointer (some ⟨w.heap.size, 0, none⟩), .pointer (some ⟨w.heap.size + 1, 0, none⟩), .pointer (some ⟨w.heap.size, 3 * x.1, none⟩), undef, .func (.func 84) #[] #[.pointer (some ⟨w.heap.size + 2, 0, none⟩), .pointer (some ⟨w.heap.size + 3, 0, none⟩)], .pointer (some ⟨w.heap.size, 3 * x.1, none⟩), .pointer (some ⟨w.heap.size, 3 * x.1, none⟩), undef, undef, undef, undef, undef, undef, undef], defers := [] }) ?assign ?body ?done ?stop
  case assign =>
    intro l x W K hK
    gi_wp2
    exact hK
  case body =>
    rintro l pre ⟨i, hi⟩ W ⟨⟨h1, h2, h4, h5, h6⟩, hW⟩ _
    have hi4 : i = 0 ∨ i = 1 ∨ i = 2 ∨ i = 3 := by omega
    rcases hi4 with rfl | rfl | rfl | rfl
    · have x0 := h2.cell 0
      have x1 := h2.cell 1
      have x2 := h2.cell 2
      simp only [lgA, lgZ, lgS] at x0 x1 x2
      obtain ⟨Q, hQ⟩ : ∃ Q, mayd m.s = Q := ⟨_, rfl⟩
      have hd := dcheck_d ag0 aX0 an0 ac0 ae0 m.s Q hQ W (gra.out.1.below hW hW.size)
      have gQ := Lib.hid hQ
      clear hQ
      cases Q with
      | true =>
        gi_wp2_with (refine ⟨trivial, ?_⟩; gi_at_call 75; refine (callsIn_wide.2 hd).mono ?_; rintro e w2 ⟨rfl, hb2⟩)
        have hg : W.grownBy w2 none := ⟨hb2.os, hb2.tape, hb2.output, hb2.size, fun k hk _ => hb2.block k hk⟩
        exact ⟨KeepsOthers.of_grownBy hg (fun j o e ho => by cases e), ⟨hb2.cell (p := ⟨w.heap.size + 2, 0, none⟩) h5.lt, hb2.cell (p := ⟨w.heap.size + 3, 0, none⟩) h6.lt⟩, ⟨Lib.hid (fun y hy => (List.mem_append.1 hy).elim (h1.out y) (fun h => by rw [List.mem_singleton.1 h]; exact gQ.out)), h2.below hb2 h2.lt, h4.below hb2 h4.lt, h5.below hb2 h5.lt, h6.below hb2 h6.lt⟩, hW.trans (hb2.mono hW.size)⟩
      | false =>
        gi_wp2_with (refine ⟨trivial, ?_⟩; gi_at_call 75; refine (callsIn_wide.2 hd).mono ?_; rintro e w2 ⟨rfl, hb2⟩; have d0 := (h4.below hb2 h4.lt).cell 0; have f0 := (h4.below hb2 h4.lt).frozen 0; simp only [List.getElem?_toArray, List.getElem?_cons_zero] at d0)
        have hg : W.grownBy w2 none := ⟨hb2.os, hb2.tape, hb2.output, hb2.size, fun k hk _ => hb2.block k hk⟩
        have h8 := (h4.below hb2 h4.lt).set_ 0 (.int .i64 8)
        simp at h8
        exact ⟨(KeepsOthers.of_grownBy hg (fun j o e ho => by cases e)).trans (KeepsOthers.setCell w2 ⟨w.heap.size + 1, 0, none⟩ _), ⟨rfl, Lib.hid (by unfold mayM; simp [gQ.out]), h8⟩, (hW.trans (hb2.mono hW.size)).setCell (p := ⟨w.heap.size + 1, 0, none⟩) (by simp) _⟩
    · have x0 := h2.cell 3
      have x1 := h2.cell 4
      have x2 := h2.cell 5
      simp only [lgA, lgZ, lgS] at x0 x1 x2
      obtain ⟨Q, hQ⟩ : ∃ Q, mayd m.w = Q := ⟨_, rfl⟩
      have hd := dcheck_d ag1 aX1 an1 ac1 ae1 m.w Q hQ W (gra.out.2.1.below hW hW.size)
      have gQ := Lib.hid hQ
      clear hQ
      cases Q with
      | true =>
        gi_wp2_with (refine ⟨trivial, ?_⟩; gi_at_call 75; refine (callsIn_wide.2 hd).mono ?_; rintro e w2 ⟨rfl, hb2⟩)
        have hg : W.grownBy w2 none := ⟨hb2.os, hb2.tape, hb2.output, hb2.size, fun k hk _ => hb2.block k hk⟩
        exact ⟨KeepsOthers.of_grownBy hg (fun j o e ho => by cases e), ⟨hb2.cell (p := ⟨w.heap.size + 2, 0, none⟩) h5.lt, hb2.cell (p := ⟨w.heap.size + 3, 0, none⟩) h6.lt⟩, ⟨Lib.hid (fun y hy => (List.mem_append.1 hy).elim (h1.out y) (fun h => by rw [List.mem_singleton.1 h]; exact gQ.out)), h2.below hb2 h2.lt, h4.below hb2 h4.lt, h5.below hb2 h5.lt, h6.below hb2 h6.lt⟩, hW.trans (hb2.mono hW.size)⟩
      | false =>
        gi_wp2_with (refine ⟨trivial, ?_⟩; gi_at_call 75; refine (callsIn_wide.2 hd).mono ?_; rintro e w2 ⟨rfl, hb2⟩; have d0 := (h4.below hb2 h4.lt).cell 0; have f0 := (h4.below hb2 h4.lt).frozen 0; simp only [List.getElem?_toArray, List.getElem?_cons_zero] at d0)
        have hg : W.grownBy w2 none := ⟨hb2.os, hb2.tape, hb2.output, hb2.size, fun k hk _ => hb2.block k hk⟩
        have h8 := (h4.below hb2 h4.lt).set_ 0 (.int .i64 8)
        simp at h8
        exact ⟨(KeepsOthers.of_grownBy hg (fun j o e ho => by cases e)).trans (KeepsOthers.setCell w2 ⟨w.heap.size + 1, 0, none⟩ _), ⟨rfl, Lib.hid (by unfold mayM; simp [gQ.out]), h8⟩, (hW.trans (hb2.mono hW.size)).setCell (p := ⟨w.heap.size + 1, 0, none⟩) (by simp) _⟩
    · have x0 := h2.cell 6
      have x1 := h2.cell 7
      have x2 := h2.cell 8
      simp only [lgA, lgZ, lgS] at x0 x1 x2
      obtain ⟨Q, hQ⟩ : ∃ Q, mayd m.c = Q := ⟨_, rfl⟩
      have hd := dcheck_d ag2 aX2 an2 ac2 ae2 m.c Q hQ W (gra.out.2.2.1.below hW hW.size)
      have gQ := Lib.hid hQ
      clear hQ
      cases Q with
      | true =>
        gi_wp2_with (refine ⟨trivial, ?_⟩; gi_at_call 75; refine (callsIn_wide.2 hd).mono ?_; rintro e w2 ⟨rfl, hb2⟩)
        have hg : W.grownBy w2 none := ⟨hb2.os, hb2.tape, hb2.output, hb2.size, fun k hk _ => hb2.block k hk⟩
        exact ⟨KeepsOthers.of_grownBy hg (fun j o e ho => by cases e), ⟨hb2.cell (p := ⟨w.heap.size + 2, 0, none⟩) h5.lt, hb2.cell (p := ⟨w.heap.size + 3, 0, none⟩) h6.lt⟩, ⟨Lib.hid (fun y hy => (List.mem_append.1 hy).elim (h1.out y) (fun h => by rw [List.mem_singleton.1 h]; exact gQ.out)), h2.below hb2 h2.lt, h4.below hb2 h4.lt, h5.below hb2 h5.lt, h6.below hb2 h6.lt⟩, hW.trans (hb2.mono hW.size)⟩
      | false =>
        gi_wp2_with (refine ⟨trivial, ?_⟩; gi_at_call 75; refine (callsIn_wide.2 hd).mono ?_; rintro e w2 ⟨rfl, hb2⟩; have d0 := (h4.below hb2 h4.lt).cell 0; have f0 := (h4.below hb2 h4.lt).frozen 0; simp only [List.getElem?_toArray, List.getElem?_cons_zero] at d0)
        have hg : W.grownBy w2 none := ⟨hb2.os, hb2.tape, hb2.output, hb2.size, fun k hk _ => hb2.block k hk⟩
        have h8 := (h4.below hb2 h4.lt).set_ 0 (.int .i64 8)
        simp at h8
        exact ⟨(KeepsOthers.of_grownBy hg (fun j o e ho => by cases e)).trans (KeepsOthers.setCell w2 ⟨w.heap.size + 1, 0, none⟩ _), ⟨rfl, Lib.hid (by unfold mayM; simp [gQ.out]), h8⟩, (hW.trans (hb2.mono hW.size)).setCell (p := ⟨w.heap.size + 1, 0, none⟩) (by simp) _⟩
    · have x0 := h2.cell 9
      have x1 := h2.cell 10
      have x2 := h2.cell 11
      simp only [lgA, lgZ, lgS] at x0 x1 x2
      obtain ⟨Q, hQ⟩ : ∃ Q, mayd m.a = Q := ⟨_, rfl⟩
      have hd := dcheck_d ag3 aX3 an3 ac3 ae3 m.a Q hQ W (gra.out.2.2.2.below hW hW.size)
      have gQ := Lib.hid hQ
      clear hQ
      cases Q with
      | true =>
        gi_wp2_with (refine ⟨trivial, ?_⟩; gi_at_call 75; refine (callsIn_wide.2 hd).mono ?_; rintro e w2 ⟨rfl, hb2⟩)
        have hg : W.grownBy w2 none := ⟨hb2.os, hb2.tape, hb2.output, hb2.size, fun k hk _ => hb2.block k hk⟩
        exact ⟨KeepsOthers.of_grownBy hg (fun j o e ho => by cases e), ⟨hb2.cell (p := ⟨w.heap.size + 2, 0, none⟩) h5.lt, hb2.cell (p := ⟨w.heap.size + 3, 0, none⟩) h6.lt⟩, ⟨Lib.hid (fun y hy => (List.mem_append.1 hy).elim (h1.out y) (fun h => by rw [List.mem_singleton.1 h]; exact gQ.out)), h2.below hb2 h2.lt, h4.below hb2 h4.lt, h5.below hb2 h5.lt, h6.below hb2 h6.lt⟩, hW.trans (hb2.mono hW.size)⟩
      | false =>
        gi_wp2_with (refine ⟨trivial, ?_⟩; gi_at_call 75; refine (callsIn_wide.2 hd).mono ?_; rintro e w2 ⟨rfl, hb2⟩; have d0 := (h4.below hb2 h4.lt).cell 0; have f0 := (h4.below hb2 h4.lt).frozen 0; simp only [List.getElem?_toArray, List.getElem?_cons_zero] at d0)
        have hg : W.grownBy w2 none := ⟨hb2.os, hb2.tape, hb2.output, hb2.size, fun k hk _ => hb2.block k hk⟩
        have h8 := (h4.below hb2 h4.lt).set_ 0 (.int .i64 8)
        simp at h8
        exact ⟨(KeepsOthers.of_grownBy hg (fun j o e ho => by cases e)).trans (KeepsOthers.setCell w2 ⟨w.heap.size + 1, 0, none⟩ _), ⟨rfl, Lib.hid (by unfold mayM; simp [gQ.out]), h8⟩, (hW.trans (hb2.mono hW.size)).setCell (p := ⟨w.heap.size + 1, 0, none⟩) (by simp) _⟩
  case done =>
    rintro D ys W hD rfl ⟨⟨h1, h2, h4, _, _⟩, hW⟩ hK
    have hmk : mayM m = true := by
      have h := h1.out
      have e0 := h p0 (by simp)
      have e1 := h p1 (by simp)
      have e2 := h p2 (by simp)
      have e3 := h p3 (by simp)
      unfold mayM
      simp only [prt, p0, p1, p2, p3] at e0 e1 e2 e3
      rw [e0, e1, e2, e3]; rfl
    obtain rfl : true = R := by rw [← gR.out]; exact hmk.symm
    clear hmk gR
    have d0 := h4.cell 0
    have f0 := h4.frozen 0
    simp only [List.getElem?_toArray, List.getElem?_cons_zero] at d0
    have hD' : w.heap.size + 4 ≤ D := by rw [gsz.out] at hD; exact hD
    have hDl : D < W.heap.size := (Array.getElem?_eq_some_iff.1 hK).1
    have hK2 := (KeepsOthers.setCell W ⟨w.heap.size + 1, 0, none⟩ (.int .i64 0)).same D _ hK rfl
    have B5 := h4.set_ 0 (.int .i64 0)
    have B6 := B5.grown (grownBy_putObj' _ D (.deferred none)) (by simp; omega)
    have q0 := B6.cell 0
    simp at q0
    clear B5 B6 h1 h2 h4
    gi_wp2
    refine ⟨by simp, .inl ⟨_, _, rfl, run_takeDeferred hK2, ?_⟩⟩
    refine ⟨.int .i64 0, ?_, rfl, (hW.setCell (p := ⟨w.heap.size + 1, 0, none⟩) (by simp) _).trans (belowK_b (w := w) (Nat.le_refl _) _ D _ _ (by omega) hK2 rfl rfl)⟩
    simp [results, Try.f41, go_sem, q0]
  case stop =>
    rintro D c pre W hD _ ⟨⟨rfl, h1, h2⟩, hW⟩ hK
    obtain rfl : false = R := by rw [← gR.out]; exact h1.out.symm
    clear gR
    have hDl : D < W.heap.size := (Array.getElem?_eq_some_iff.1 hK).1
    have hD' : w.heap.size + 4 ≤ D := by rw [gsz.out] at hD; exact hD
    have B6 := h2.grown (grownBy_putObj' _ D (.deferred none)) (by simp; omega)
    have q0 := B6.cell 0
    simp at q0
    clear B6 h1 h2
    gi_wp2
    refine ⟨by simp, .inl ⟨_, _, rfl, run_takeDeferred hK, ?_⟩⟩
    refine ⟨.int .i64 8, ?_, rfl, hW.trans (belowK_b (w := w) (Nat.le_refl _) _ D _ _ (by omega) hK rfl rfl)⟩
    simp [results, Try.f41, go_sem, q0]
end Go.Proofs.Ytjmhefkmpfkpbaa
namespace Go.Proofs.Ytjmhefkmpfkpbaa
open Go.ChangeShapes Go.WideShapes Go.ChangeAt Go.RowKit
set_option linter.unusedSimpArgs false
set_option linter.unusedVariables false
set_option maxHeartbeats 400000 in
theorem tz_some {l : List Tm} {i : Nat} {t : Tm} (h : l[i]? = some t) : tz l i = t := by
  unfold tz
  rw [List.getD_eq_getElem?_getD, h]; rfl
set_option maxHeartbeats 4000000 in
theorem idx_may (A : Option Addr) (n c : Nat) (l : List Tm) (hn : n ≤ 5000) (w : World) (h : Tms w w.heap.size A n l) (hclo : ∀ w' a b, Below w.heap.size w w' → ∀ Q, (!mayT (a, b)) = Q → Calls Try.prog 77 #[.agg #[.int .i64 a, .int .i64 b]] w' fun en w'' => en = .returned (.bool Q) ∧ Below w'.heap.size w' w'') : Calls Try.prog 97 #[.slice A n c, .func (.func 77) #[] #[]] w fun en w' => Below w.heap.size w w' ∧ ((∃ k, k < n ∧ en = .returned (.int .i64 (k : Int)) ∧ (!mayT (tz l k)) = true ∧ ∀ j, j < k → (!mayT (tz l j)) = false) ∨ (en = .returned (.int .i64 (-1)) ∧ ∀ j, j < n → (!mayT (tz l j)) = false)) := by
  have hat : Hid (∀ k, k < n → ∃ ad, A = some ad ∧ ad.block < w.heap.size ∧ ∀ w', Below w.heap.size w w' → w'.cell? (ad.add (k * 2)) = some (.int .i64 (tz l k).1) ∧ w'.cell? ⟨(ad.add (k * 2)).block, (ad.add (k * 2)).off + 1, none⟩ = some (.int .i64 (tz l k).2)) := Lib.hid (fun k hk => h.at_ hk)
  have hB0 := Below.refl w.heap.size w
  clear h
  go_enter Try.func97, Try.ntmps97
  go_wp2
  go_loopw [8] (fun t wr => ∃ (k : Nat), k ≤ n ∧ t = .int .i64 (k : Int) ∧ Hid (∀ j, j < k → (!mayT (tz l j)) = false) ∧ Below w.heap.size w wr) (fun t _ => n - (intOf t).toNat)
  case atStart => exact ⟨0, Nat.zero_le _, rfl, Lib.hid (fun j hj => by omega), hB0⟩
  case round =>
    clear hB0
    obtain ⟨k, hk, rfl, gI, hB⟩ := hrel
    by_cases hlt : k < n
    · obtain ⟨ad, rfl, hab, hc⟩ := hat.out k hlt
      obtain ⟨c0, c1⟩ := hc wr hB
      have i1 : (0 : Int) ≤ k := by omega
      have i2 : (k : Int) < n := by omega
      obtain ⟨Q, hQ⟩ : ∃ Q, (!mayT (tz l k)) = Q := ⟨_, rfl⟩
      have hf := hclo wr (tz l k).1 (tz l k).2 hB Q hQ
      have gQ := Lib.hid hQ
      clear hQ hclo
      generalize hx : (tz l k).1 = x at c0 c1 hf
      generalize hy : (tz l k).2 = y at c0 c1 hf
      clear hc hx hy
      cases Q with
      | true =>
        go_wp2_with (go_at_call 77; refine hf.mono ?_; rintro en w2 ⟨rfl, hb2⟩)
        go_ret
        exact ⟨hB.trans (hb2.mono hB.size), .inl ⟨k, hlt, rfl, gQ.out, gI.out⟩⟩
      | false =>
        have gI' := Lib.hid (fun j (hj : j < k + 1) => show (!mayT (tz l j)) = false from by
          rcases Nat.lt_or_ge j k with h1 | h1
          · exact gI.out j h1
          · rw [show j = k by omega]; exact gQ.out)
        clear gI gQ
        go_wp2_with (go_at_call 77; refine hf.mono ?_; rintro en w2 ⟨rfl, hb2⟩)
        go_roundw
        case rel => exact ⟨k + 1, by omega, by go_num, gI', hB.trans (hb2.mono hB.size)⟩
        case measure => simp [intOf]; omega
    · obtain rfl : k = n := by omega
      clear hat
      go_wp2
      go_ret
      exact ⟨hB, .inr ⟨rfl, gI.out⟩⟩
theorem notmay (a b : Int) (w : World) (Q : Bool) (hQ : (!mayT (a, b)) = Q) : Calls Try.prog 77 #[.agg #[.int .i64 a, .int .i64 b]] w fun en w' => en = .returned (.bool Q) ∧ Below w.heap.size w w' := by
  obtain ⟨P, hP⟩ : ∃ P, mayT (a, b) = P := ⟨_, rfl⟩
  have hm := dmay a b (w.alloc (.cells #[.int .i64 a, .int .i64 b] 73)) P hP
  have hB := (Below.refl w.heap.size w).alloc (Nat.le_refl _) (.cells #[.int .i64 a, .int .i64 b] 73)
  rw [hP] at hQ
  subst hQ
  clear hP
  go_enter Try.func77, Try.ntmps77
  go_wp2_with (go_at_call 78; refine hm.mono ?_; rintro en w2 ⟨rfl, hb2⟩)
  go_ret
  exact ⟨rfl, hB.trans (hb2.mono hB.size)⟩
set_option maxHeartbeats 2000000 in
theorem hasbad (A : Option Addr) (n c : Nat) (l : List Tm) (hn : n ≤ 5000) (w : World) (h : Tms w w.heap.size A n l) (Q : Bool) (hQ : (l.any fun t => !mayT t) = Q) : Calls Try.prog 76 #[.slice A n c, .func (.func 77) #[] #[]] w fun en w' => en = .returned (.bool Q) ∧ Below w.heap.size w w' := by
  have hi := idx_may A n c l hn w h (fun w' a b _ Q hQ => notmay a b w' Q hQ)
  have hl := h.1
  have gq : Hid (∀ k, k < n → (!mayT (tz l k)) = true → Q = true) := Lib.hid (fun k hk hm => by
    rw [← hQ, List.any_eq_true]
    exact ⟨tz l k, List.mem_of_getElem? (tz_lt (by omega)), hm⟩)
  have gq2 : Hid ((∀ j, j < n → (!mayT (tz l j)) = false) → Q = false) := Lib.hid (fun hj => by
    rw [← hQ, List.any_eq_false]
    intro t ht
    obtain ⟨j, hj2, rfl⟩ := List.getElem_of_mem ht
    have := hj j (by omega)
    rw [tz_some (List.getElem?_eq_getElem hj2)] at this
    simpa using this)
  clear h hQ hl
  go_enter Try.func76, Try.ntmps76
  go_wp2_with fail
  refine hi.mono ?_
  rintro en w1 ⟨hb, ⟨k, hk, rfl, hm, _⟩ | ⟨rfl, hm⟩⟩
  · have e := gq.out k hk hm
    have i1 : decide (0 ≤ (k : Int)) = true := decide_eq_true (by omega)
    clear hm hi gq gq2
    go_wp2
    go_ret
    subst e
    exact ⟨rfl, hb⟩
  · have e := gq2.out hm
    clear hm hi gq gq2
    go_wp2
    go_ret
    subst e
    exact ⟨rfl, hb⟩
/-- What desc.Check answers. -/
def chkD (l : List Tm) : Int := if 64 < l.length then 4 else if (l.any fun t => !mayT t) then 8 else 0
theorem dscheck_any (A : Option Addr) (n c : Nat) (l : List Tm) (hn : n ≤ 5000) (w : World) (h : Tms w w.heap.size A n l) (E : Int) (hE : chkD l = E) : Calls Try.prog 42 #[.slice A n c] w fun en w' => en = .returned (.int .i64 E) ∧ Below w.heap.size w w' := by
  have hl := h.1
  unfold chkD at hE
  rw [hl] at hE
  by_cases h64 : 64 < n
  · rw [if_pos h64] at hE
    subst hE
    have d1 : decide ((64 : Int) < (n : Int)) = true := decide_eq_true (by omega)
    have d2 : decide (64 < n) = true := decide_eq_true h64
    clear h hl
    go_enter Try.func42, Try.ntmps42
    go_wp2
    go_ret
    exact ⟨rfl, Below.refl _ _⟩
  · rw [if_neg h64] at hE
    have d1 : decide ((64 : Int) < (n : Int)) = false := decide_eq_false (by omega)
    have d2 : decide (64 < n) = false := decide_eq_false h64
    obtain ⟨Q, hQ⟩ : ∃ Q, (l.any fun t => !mayT t) = Q := ⟨_, rfl⟩
    have hb := hasbad A n c l hn w h Q hQ
    rw [hQ] at hE
    clear hQ h hl
    cases Q
    · have hE0 : (0 : Int) = E := by simpa using hE
      subst hE0
      clear hE
      go_enter Try.func42, Try.ntmps42
      go_wp2_with fail
      refine hb.mono ?_
      rintro en w1 ⟨rfl, hb1⟩
      go_wp2
      go_ret
      exact ⟨rfl, hb1⟩
    · have hE0 : (8 : Int) = E := by simpa using hE
      subst hE0
      clear hE
      go_enter Try.func42, Try.ntmps42
      go_wp2_with fail
      refine hb.mono ?_
      rintro en w1 ⟨rfl, hb1⟩
      go_wp2
      go_ret
      exact ⟨rfl, hb1⟩
end Go.Proofs.Ytjmhefkmpfkpbaa
namespace Go.Proofs.Ytjmhefkmpfkpbaa
open Go.ChangeShapes Go.WideShapes Go.ChangeAt Go.RowKit
set_option linter.unusedSimpArgs false
set_option linter.unusedVariables false
set_option maxHeartbeats 4000000 in
theorem dequal_any (A A2 : Option Addr) (n n2 c c2 B B2 : Nat) (a b : List Tm) (hm : n ≤ 100000) (w : World) (hR : Tms w B A n a) (hR2 : Tms w B2 A2 n2 b) :
    Calls Try.prog 58 #[.slice A n c, .slice A2 n2 c2] w fun en w' => en = .returned (.bool (decide (a = b))) ∧ ∃ m, w' = w.drewN m := by
  have hn := hR.1
  have hn2 := hR2.1
  by_cases hlen : n = n2
  · subst hlen
    have no : ∀ k, k < n → tz a k ≠ tz b k → decide (a = b) = false := fun k _ h => decide_eq_false (fun e => h (by rw [e]))
    have yes : (∀ k, k < n → tz a k = tz b k) → decide (a = b) = true := fun h => decide_eq_true (by
      apply List.ext_getElem (by omega)
      intro i h1 h2
      have := h i (by omega)
      rwa [tz_some (List.getElem?_eq_getElem h1), tz_some (List.getElem?_eq_getElem h2)] at this)
    obtain ⟨R, hRr⟩ : ∃ R, decide (a = b) = R := ⟨_, rfl⟩
    rw [hRr] at no yes ⊢
    have gno := Lib.hid no
    have gyes := Lib.hid yes
    have gR := Lib.hid hR
    have gR2 := Lib.hid hR2
    have t1 : ((n : Int) != n) = false := by simp
    clear no yes hRr hn hn2 hR hR2
    go_enter Try.func58, Try.ntmps58
    go_wp2
    go_loopw [13] (fun t wr => ∃ k m : Nat, k ≤ n ∧ t = .int .i64 (k : Int) ∧ Hid (∀ j, j < k → tz a j = tz b j) ∧ wr = w.drewN m) (fun t _ => n - (intOf t).toNat)
    case atStart => exact ⟨0, 0, Nat.zero_le _, rfl, Lib.hid (fun j h1 => by omega), rfl⟩
    case round =>
      obtain ⟨k, m, hk, rfl, h0, rfl⟩ := hrel
      by_cases hlt : k < n
      · obtain ⟨ad, rfl, hab, hc⟩ := gR.out.at_ hlt
        obtain ⟨ad2, rfl, hab2, hc2⟩ := gR2.out.at_ hlt
        obtain ⟨a0, a1⟩ := hc w (Below.refl _ _)
        obtain ⟨b0, b1⟩ := hc2 w (Below.refl _ _)
        have i1 : (0 : Int) ≤ k := by omega
        have i2 : (k : Int) < n := by omega
        obtain ⟨x, hx⟩ : ∃ x, tz a k = x := ⟨_, rfl⟩
        obtain ⟨y, hy⟩ : ∃ y, tz b k = y := ⟨_, rfl⟩
        rw [hx] at a0 a1
        rw [hy] at b0 b1
        by_cases h : x = y
        · subst h
          have h0' : Hid (∀ i, i < k + 1 → tz a i = tz b i) := Lib.hid (fun i h1 => by
            rcases Nat.lt_or_ge i k with h3 | h3
            · exact h0.out i h3
            · rw [show i = k by omega, hx, hy])
          obtain ⟨x1, x2⟩ := x
          simp only at a0 a1 b0 b1
          clear hx hy gR gR2 gno gyes h0 hc hc2
          go_wp2_with fail
          go_quiet (fail)
          go_wp2
          go_roundw
          case rel => exact ⟨k + 1, _, by omega, by go_num, h0', rfl⟩
          case measure => simp [intOf] <;> omega
        · obtain rfl := gno.out k hlt (by rw [hx, hy]; exact h)
          obtain ⟨x1, x2⟩ := x
          obtain ⟨y1, y2⟩ := y
          simp only at a0 a1 b0 b1
          have h12 : ¬ (x1 = y1 ∧ x2 = y2) := fun e => h (by rw [e.1, e.2])
          obtain ⟨q1, hq1⟩ : ∃ q, (x1 == y1) = q := ⟨_, rfl⟩
          obtain ⟨q2, hq2⟩ : ∃ q, (x2 == y2) = q := ⟨_, rfl⟩
          have hqq : (q1 && q2) = false := by
            rw [← hq1, ← hq2]
            simp only [Bool.and_eq_false_iff, beq_eq_false_iff_ne]
            by_cases e : x1 = y1
            · exact .inr (fun e2 => h12 ⟨e, e2⟩)
            · exact .inl e
          clear hx hy gR gR2 gyes h0 gno hc hc2 h h12
          cases q1 <;> cases q2
          case true.true => cases hqq
          all_goals
            clear hqq
            go_wp2_with fail
            go_quiet (fail)
            go_wp2
            go_ret
            refine ⟨rfl, ?_⟩
            simp only [World.drewN_drewN]
            exact ⟨_, rfl⟩
      · obtain rfl : k = n := by omega
        obtain rfl := gyes.out h0.out
        clear gR gR2 gno gyes h0
        go_wp2
        go_ret
        exact ⟨rfl, m, rfl⟩
  · rw [decide_eq_false (show ¬ a = b from fun e => hlen (by rw [← hn, ← hn2, e]))]
    have t1 : ((n : Int) != n2) = true := by simp; omega
    have t2 : (n != n2) = true := by simpa using hlen
    clear hR hR2 hn hn2
    go_enter Try.func58, Try.ntmps58
    go_wp2
    go_ret
    exact ⟨rfl, 0, rfl⟩
theorem descsame_any (A A2 : Option Addr) (n n2 c c2 B B2 : Nat) (a b : List Tm) (hm : n ≤ 100000) (w : World) (hR : Tms w B A n a) (hR2 : Tms w B2 A2 n2 b) (R : Bool) (hRR : decide (a = b) = R) :
    Calls Try.prog 28 #[.slice A n c, .slice A2 n2 c2] w fun en w' => en = .returned (.bool R) ∧ ∃ m, w' = w.drewN m := by
  have h := dequal_any A A2 n n2 c c2 B B2 a b hm w hR hR2
  rw [hRR] at h
  clear hR hR2 hRR
  go_enter Try.func28, Try.ntmps28
  go_wp2_with fail
  refine h.mono ?_
  rintro en w1 ⟨rfl, m, rfl⟩
  go_wp2
  go_ret
  exact ⟨rfl, m, rfl⟩
end Go.Proofs.Ytjmhefkmpfkpbaa
namespace Go.Proofs.Ytjmhefkmpfkpbaa
open Go.ChangeShapes Go.WideShapes Go.ChangeAt Go.RowKit
set_option linter.unusedSimpArgs false
set_option linter.unusedVariables false
/-- Numbers that rise. -/
def rises (l : List Nat) : Prop := ∀ i, i + 1 < l.length → l.getD i 0 < l.getD (i + 1) 0
set_option maxHeartbeats 4000000 in
theorem least_any (A : Option Addr) (n c B : Nat) (l : List Nat) (hn : l.length = n) (hm : n ≤ 100000) (w : World) (hR : Reads w B 1 A n (ints .u32 l)) :
    Calls Try.prog 44 #[.slice A n c] w fun en w' => ∃ R : Bool, en = .returned (.bool R) ∧ (R = true ↔ (rises l ∧ l.length ≤ 8)) ∧ ∃ m, w' = w.drewN m := by
  have gn := Lib.hid hn
  have gR := Lib.hid hR
  clear hn hR
  go_enter Try.func44, Try.ntmps44
  go_wp2
  go_loopw [3] (fun t wr => ∃ K m : Nat, 1 ≤ K ∧ K ≤ n + 1 ∧ t = .int .i64 (K : Int) ∧ Hid (∀ j, j + 1 < K → j + 1 < n → l.getD j 0 < l.getD (j + 1) 0) ∧ wr = w.drewN m) (fun t _ => n + 1 - (intOf t).toNat)
  case atStart => exact ⟨1, 0, Nat.le_refl _, by omega, rfl, Lib.hid (fun j h1 => by omega), rfl⟩
  case round =>
    obtain ⟨K, m, hK1, hk, rfl, h0, rfl⟩ := hrel
    by_cases hlt : K < n
    · obtain ⟨k, hkK⟩ : ∃ k, K = k + 1 := ⟨K - 1, by omega⟩
      obtain ⟨ad, rfl, hab, cA⟩ := at_ints gn.out gR.out hlt
      obtain ⟨ad2, e2, hab2, cA2⟩ := at_ints gn.out gR.out (show k < n by omega)
      injection e2 with e2
      subst e2
      have i1 : (0 : Int) ≤ (K : Int) := by omega
      have i2 : (K : Int) < n := by omega
      have i3 : (0 : Int) ≤ k := by omega
      have i4 : (k : Int) < n := by omega
      have w1 : IntKind.i64.wrap ((K : Int) - 1) = k := by rw [show (K : Int) - 1 = k by omega]; exact IntWalk.i64_in _ (by omega)
      obtain ⟨x, hx⟩ : ∃ x, l.getD K 0 = x := ⟨_, rfl⟩
      obtain ⟨y, hy⟩ : ∃ y, l.getD k 0 = y := ⟨_, rfl⟩
      rw [hx] at cA
      rw [hy] at cA2
      by_cases h : x ≤ y
      · have t1 : decide ((x : Int) ≤ y) = true := decide_eq_true (by omega)
        have t2 : decide (x ≤ y) = true := decide_eq_true h
        have gno : Hid (¬ rises l) := Lib.hid (fun hr => by have := hr k (by rw [gn.out]; omega); rw [← hkK, hx, hy] at this; omega)
        have gk := Lib.hid hkK
        clear hx hy h0 gR hkK hK1
        go_wp2_with fail
        go_quiet (fail)
        go_wp2
        go_ret
        refine ⟨false, rfl, ⟨(fun h => by cases h), fun h => absurd h.1 gno.out⟩, ?_⟩
        simp only [World.drewN_drewN]
        exact ⟨_, rfl⟩
      · have t1 : decide ((x : Int) ≤ y) = false := decide_eq_false (by omega)
        have t2 : decide (x ≤ y) = false := decide_eq_false h
        have h0' : Hid (∀ j, j + 1 < K + 1 → j + 1 < n → l.getD j 0 < l.getD (j + 1) 0) := Lib.hid (fun i h1 h2 => by
          rcases Nat.lt_or_ge i k with h3 | h3
          · exact h0.out i (by omega) h2
          · rw [show i = k by omega, ← hkK, hx, hy]; omega)
        have gk := Lib.hid hkK
        clear hx hy h0 h hkK
        go_wp2_with fail
        go_quiet (fail)
        go_wp2
        go_roundw
        case rel => exact ⟨K + 1, _, by omega, by omega, by go_num, h0', rfl⟩
        case measure => simp [intOf] <;> omega
    · have gr : Hid (rises l) := Lib.hid (fun i hi => h0.out i (by have := gn.out; omega) (by have := gn.out; omega))
      obtain ⟨R, hR⟩ : ∃ R, decide (n ≤ 8) = R := ⟨_, rfl⟩
      have hR2 : decide ((n : Int) ≤ 8) = R := by rw [← hR]; simp; omega
      have gRR := Lib.hid hR
      clear h0
      cases R
      all_goals
        go_wp2
        go_ret
        refine ⟨_, rfl, ?_, m, rfl⟩
        have := gRR.out
        have h2 := gn.out
        have h3 := gr.out
        simp at this
        simp [h3, h2]
        try omega
end Go.Proofs.Ytjmhefkmpfkpbaa
namespace Go.Proofs.Ytjmhefkmpfkpbaa
open Go.ChangeShapes Go.WideShapes Go.ChangeAt Go.RowKit
set_option linter.unusedSimpArgs false
set_option linter.unusedVariables false
def badN (x : Int) : Bool := decide (x < 0) || decide (8 ≤ x)
theorem nbad (x : Int) (w : World) (Q : Bool) (hQ : badN x = Q) : Calls Try.prog 74 #[.int .i64 x] w fun en w' => en = .returned (.bool Q) ∧ w = w' := by
  obtain ⟨q0, hq0⟩ : ∃ q, decide (x < 0) = q := ⟨_, rfl⟩
  obtain ⟨q1, hq1⟩ : ∃ q, decide (8 ≤ x) = q := ⟨_, rfl⟩
  unfold badN at hQ
  rw [hq0, hq1] at hQ
  subst hQ
  cases q0 <;> cases q1
  all_goals
    go_enter Try.func74, Try.ntmps74
    go_wp2
    go_ret
    exact ⟨rfl, rfl⟩
theorem nidx (g : Nat) (a b : Int) (w : World) (ca : w.cell? ⟨g, 0, none⟩ = some (.int .i64 a)) (cb : w.cell? ⟨g, 1, none⟩ = some (.int .i64 b)) :
    Calls Try.prog 95 #[.slice (some ⟨g, 0, none⟩) 2 2, .func (.func 74) #[] #[]] w fun en w' => (∃ r : Int, en = .returned (.int .i64 r) ∧ ((r = 0 ∧ badN a = true) ∨ (r = 1 ∧ badN b = true) ∨ (r = -1 ∧ badN a = false ∧ badN b = false))) ∧ w = w' := by
  obtain ⟨qa, hqa⟩ : ∃ q, badN a = q := ⟨_, rfl⟩
  obtain ⟨qb, hqb⟩ : ∃ q, badN b = q := ⟨_, rfl⟩
  have fa := fun w' => nbad a w' qa hqa
  have fb := fun w' => nbad b w' qb hqb
  rw [hqa, hqb]
  clear hqa hqb
  cases qa <;> cases qb
  all_goals
    go_enter Try.func95, Try.ntmps95
    go_wp2
  · go_loopw [8] (fun t wr => (t = .int .i64 0 ∨ t = .int .i64 1 ∨ t = .int .i64 2) ∧ w = wr) (fun t _ => 2 - (intOf t).toNat)
    case atStart => exact ⟨.inl rfl, rfl⟩
    case round =>
      obtain ⟨rfl | rfl | rfl, rfl⟩ := hrel
      · go_wp2_with (go_at_call 74; refine (fa _).mono ?_; rintro en w2 ⟨rfl, rfl⟩)
        go_roundw
        case rel => exact ⟨.inr (.inl rfl), (by first | rfl | trivial)⟩
        case measure => simp [intOf]
      · go_wp2_with (go_at_call 74; refine (fb _).mono ?_; rintro en w2 ⟨rfl, rfl⟩)
        go_roundw
        case rel => exact ⟨.inr (.inr rfl), (by first | rfl | trivial)⟩
        case measure => simp [intOf]
      · go_wp2
        go_ret
        exact ⟨⟨-1, rfl, .inr (.inr ⟨(by first | rfl | trivial), (by first | rfl | trivial), (by first | rfl | trivial)⟩)⟩, (by first | rfl | trivial)⟩
  · go_loopw [8] (fun t wr => (t = .int .i64 0 ∨ t = .int .i64 1) ∧ w = wr) (fun t _ => 2 - (intOf t).toNat)
    case atStart => exact ⟨.inl rfl, rfl⟩
    case round =>
      obtain ⟨rfl | rfl, rfl⟩ := hrel
      · go_wp2_with (go_at_call 74; refine (fa _).mono ?_; rintro en w2 ⟨rfl, rfl⟩)
        go_roundw
        case rel => exact ⟨.inr rfl, (by first | rfl | trivial)⟩
        case measure => simp [intOf]
      · go_wp2_with (go_at_call 74; refine (fb _).mono ?_; rintro en w2 ⟨rfl, rfl⟩)
        go_ret
        exact ⟨⟨1, rfl, .inr (.inl ⟨(by first | rfl | trivial), (by first | rfl | trivial)⟩)⟩, (by first | rfl | trivial)⟩
  · go_loopw [8] (fun t wr => t = .int .i64 0 ∧ w = wr) (fun t _ => 2 - (intOf t).toNat)
    case atStart => exact ⟨rfl, rfl⟩
    case round =>
      obtain ⟨rfl, rfl⟩ := hrel
      go_wp2_with (go_at_call 74; refine (fa _).mono ?_; rintro en w2 ⟨rfl, rfl⟩)
      go_ret
      exact ⟨⟨0, rfl, .inl ⟨(by first | rfl | trivial), (by first | rfl | trivial)⟩⟩, (by first | rfl | trivial)⟩
  · go_loopw [8] (fun t wr => t = .int .i64 0 ∧ w = wr) (fun t _ => 2 - (intOf t).toNat)
    case atStart => exact ⟨rfl, rfl⟩
    case round =>
      obtain ⟨rfl, rfl⟩ := hrel
      go_wp2_with (go_at_call 74; refine (fa _).mono ?_; rintro en w2 ⟨rfl, rfl⟩)
      go_ret
      exact ⟨⟨0, rfl, .inl ⟨(by first | rfl | trivial), (by first | rfl | trivial)⟩⟩, (by first | rfl | trivial)⟩
theorem node_any (g : Nat) (a b : Int) (w : World) (ca : w.cell? ⟨g, 0, none⟩ = some (.int .i64 a)) (cb : w.cell? ⟨g, 1, none⟩ = some (.int .i64 b)) :
    Calls Try.prog 40 #[.slice (some ⟨g, 0, none⟩) 2 2] w fun en w' => en = .returned (.bool (!(badN a || badN b))) ∧ w = w' := by
  have hc : Calls Try.prog 73 #[.slice (some ⟨g, 0, none⟩) 2 2, .func (.func 74) #[] #[]] w fun en w' => en = .returned (.bool (badN a || badN b)) ∧ w = w' := by
    have hi := nidx g a b w ca cb
    obtain ⟨Q, hQ⟩ : ∃ Q, (badN a || badN b) = Q := ⟨_, rfl⟩
    rw [hQ]
    have gQ := Lib.hid hQ
    clear ca cb hQ
    go_enter Try.func73, Try.ntmps73
    go_wp2_with fail
    refine hi.mono ?_
    rintro en w1 ⟨⟨r, rfl, ⟨rfl, h⟩ | ⟨rfl, h⟩ | ⟨rfl, h, h2⟩⟩, rfl⟩
    · obtain rfl : true = Q := by rw [← gQ.out, h]; simp
      clear h
      go_wp2
      go_ret
      exact ⟨rfl, rfl⟩
    · obtain rfl : true = Q := by rw [← gQ.out, h]; simp
      clear h
      go_wp2
      go_ret
      exact ⟨rfl, rfl⟩
    · obtain rfl : false = Q := by rw [← gQ.out, h, h2]; simp
      clear h h2
      go_wp2
      go_ret
      exact ⟨rfl, rfl⟩
  generalize (badN a || badN b) = Q at hc
  clear ca cb
  go_enter Try.func40, Try.ntmps40
  go_wp2_with fail
  refine hc.mono ?_
  rintro en w1 ⟨rfl, rfl⟩
  cases Q
  all_goals
    go_wp2
    go_ret
    exact ⟨rfl, rfl⟩
end Go.Proofs.Ytjmhefkmpfkpbaa
namespace Go.Proofs.Ytjmhefkmpfkpbaa
open Go.ChangeShapes Go.WideShapes Go.ChangeAt Go.RowKit
set_option linter.unusedSimpArgs false
set_option linter.unusedVariables false
/-- A mail. -/
structure Ml where
  kd : Int
  fr : Int
  tt : Int
  ep : Int
  nu : Int
  ab : Int
  give : Ms
  wa : Bool
  ds : List Tm
  eh : Bool
  e1 : Int
  e2 : Int
  ls : List Nat
deriving DecidableEq
/-- A mail, and where its rows lie. -/
structure MO where
  x : Ml
  X0 : Option Addr
  c0 : Nat
  X1 : Option Addr
  c1 : Nat
  X2 : Option Addr
  c2 : Nat
  X3 : Option Addr
  c3 : Nat
  D : Option Addr
  dc : Nat
  L : Option Addr
  lc : Nat
def aggL (o : MO) : Value := .agg #[.int .u8 o.x.kd, .int .i64 o.x.fr, .int .i64 o.x.tt, .int .i64 o.x.ep, .int .i64 o.x.nu, .int .i64 o.x.ab, .bool o.x.give.s.neg, .slice o.X0 o.x.give.s.ls.length o.c0, .int .i64 o.x.give.s.ex, .bool o.x.give.w.neg, .slice o.X1 o.x.give.w.ls.length o.c1, .int .i64 o.x.give.w.ex, .bool o.x.give.c.neg, .slice o.X2 o.x.give.c.ls.length o.c2, .int .i64 o.x.give.c.ex, .bool o.x.give.a.neg, .slice o.X3 o.x.give.a.ls.length o.c3, .int .i64 o.x.give.a.ex, .bool o.x.wa, .slice o.D o.x.ds.length o.dc, .bool o.x.eh, .int .i64 o.x.e1, .int .i64 o.x.e2, .slice o.L o.x.ls.length o.lc]
def rdL (w : World) (B : Nat) (o : MO) : Prop := RdM w B o.x.give.s.neg o.X0 o.x.give.s.ls.length o.c0 o.x.give.s.ex o.x.give.w.neg o.X1 o.x.give.w.ls.length o.c1 o.x.give.w.ex o.x.give.c.neg o.X2 o.x.give.c.ls.length o.c2 o.x.give.c.ex o.x.give.a.neg o.X3 o.x.give.a.ls.length o.c3 o.x.give.a.ex o.x.give ∧ Tms w B o.D o.x.ds.length o.x.ds ∧ Reads w B 1 o.L o.x.ls.length (ints .u32 o.x.ls)
theorem rdL.below {w w' : World} {B B' : Nat} {o : MO} (h : rdL w B o) (hb : Below B w w') (hB : B ≤ B') : rdL w' B' o := ⟨h.1.below hb hB, (h.2.1.below hb).more hB, (h.2.2.below hb).more hB⟩
/-- Rows of bounded length. -/
def smL (m : Ml) : Prop := smM m.give ∧ m.ds.length ≤ 5000 ∧ m.ls.length ≤ 100000
end Go.Proofs.Ytjmhefkmpfkpbaa
namespace Go.Proofs.Ytjmhefkmpfkpbaa
open Go.ChangeShapes Go.WideShapes Go.ChangeAt Go.RowKit Go.Joins Go.Deep
set_option linter.unusedSimpArgs false
set_option linter.unusedVariables false
/-- Limbs are below 2^32. -/
def ltM (m : Ms) : Prop := (∀ x ∈ m.s.ls, x < 4294967296) ∧ (∀ x ∈ m.w.ls, x < 4294967296) ∧ (∀ x ∈ m.c.ls, x < 4294967296) ∧ (∀ x ∈ m.a.ls, x < 4294967296)
def ltL (m : Ml) : Prop := ltM m.give ∧ ∀ x ∈ m.ls, x < 4294967296
theorem u8_range {x : Int} (h : (Lit.int .u8 x).wf = true) : 0 ≤ x ∧ x < 256 := by
  simp [Lit.wf, IntKind.min, IntKind.max, IntKind.signed, IntKind.bits] at h
  omega
section
variable {H : Type} {enc : TypeId × Value → H} {P : Program} {w : World}
/-- A field that is a slice of integers. -/
theorem open_field {n0 : Nat} {t e : TypeId} {k : IntKind} {v : Value} {y : DataW H × List MemPlace} (ht : P.underlying t = some (.slice e)) (he : P.underlying e = some (.int k)) (hc : P.cellsOf e = 1)
    (hf : DataW.trod enc P w 0 (fun _ => true) true n0 t [v] = some y) :
    ∃ (A : Option Addr) (n c : Nat) (zs : List Int), v = .slice A n c ∧ n ≤ c ∧ zs.length = n ∧ Reads w w.heap.size 1 A n (zs.map (Value.int k)) ∧ ∀ z ∈ zs, (Lit.int k z).wf = true := by
  rcases open_ints ht he hc hf with ⟨hcs, _⟩ | ⟨a, len', cap', zs, hcs, _, hl, hm, hz, _, hcell, hwf⟩
  · simp only [List.cons.injEq, and_true] at hcs
    subst hcs
    exact ⟨none, 0, 0, [], rfl, Nat.le_refl _, rfl, Reads.none_, by simp⟩
  · simp only [List.cons.injEq, and_true] at hcs
    subst hcs
    simp only [if_true] at hz
    refine ⟨some a, len', cap', zs.take len', rfl, hl, by simp; omega, ⟨by simp; omega, fun hn => ⟨a, rfl, ?_, ?_⟩⟩, fun z hz' => hwf z (List.mem_of_mem_take hz')⟩
    · have := World.block_lt_of_cell? w _ (hcell 0 (by omega))
      rwa [block_of_add] at this
    · intro j u hu
      rw [List.getElem?_map, List.getElem?_take] at hu
      split at hu
      · rename_i hj
        have hj' : j < zs.length := by omega
        rw [hcell j hj', List.getD_eq_getElem?_getD]
        rw [List.getElem?_eq_getElem hj'] at hu ⊢
        simpa using hu
      · simp at hu
theorem dyad_at {n0 : Nat} {t tb ts te ti : TypeId} {f0 f1 f2 : Field} {c0 c1 c2 : Value} {y : DataW H × List MemPlace} (hs : P.underlying t = some (.struct #[f0, f1, f2])) (hone : oneCellFields P #[f0, f1, f2] = true)
    (e0 : f0.type = tb) (e1 : f1.type = ts) (e2 : f2.type = ti) (hb : P.underlying tb = some .bool) (hsl : P.underlying ts = some (.slice te)) (he : P.underlying te = some (.int .u32)) (hc : P.cellsOf te = 1) (hi : P.underlying ti = some (.int .i64))
    (hf : DataW.trod enc P w 0 (fun _ => true) true n0 t [c0, c1, c2] = some y) :
    ∃ (g : Bool) (X : Option Addr) (n c : Nat) (e : Int) (l : List Nat), c0 = .bool g ∧ c1 = .slice X n c ∧ c2 = .int .i64 e ∧ RdD w w.heap.size g X n c e ⟨g, l, e⟩ ∧ ∀ x ∈ l, x < 4294967296 := by
  obtain ⟨y0, y1, y2, n, _, _, t0, t1, t2⟩ := trod_struct3 hs hf
  obtain ⟨o0, k0⟩ := hone_of hone 0 f0 rfl
  obtain ⟨o1, k1⟩ := hone_of hone 1 f1 rfl
  obtain ⟨o2, k2⟩ := hone_of hone 2 f2 rfl
  rw [o0, k0, e0] at t0
  rw [o1, k1, e1] at t1
  rw [o2, k2, e2] at t2
  simp only [List.drop_succ_cons, List.drop_zero, List.take_succ_cons, List.take_zero] at t0 t1 t2
  obtain ⟨b, q0, _⟩ := DataW.trod_bool hb t0
  obtain ⟨A, m, c, zs, rfl, hmc, hz, hR, hwf⟩ := open_field hsl he hc t1
  obtain ⟨a2, q2, _, w2⟩ := DataW.trod_int hi t2
  simp only [List.cons.injEq, and_true] at q0 q2
  rw [ints_of (fun z hz => (u32_range (hwf z hz)).1)] at hR
  exact ⟨b, A, m, c, a2, zs.map Int.toNat, q0, rfl, q2, ⟨rfl, rfl, by simpa using hz, hmc, hR⟩, fun x hx => by
    obtain ⟨z, hz', rfl⟩ := List.mem_map.1 hx
    have := u32_range (hwf z hz')
    omega⟩
end
section
variable {H : Type} {enc : TypeId × Value → H} {w : World}
theorem tms_at {n0 : Nat} {v : Value} {y : DataW H × List MemPlace} (hf : DataW.trod enc Try.prog w 0 (fun _ => true) true n0 27 [v] = some y) :
    ∃ (A : Option Addr) (n c : Nat) (l : List Tm), v = .slice A n c ∧ n ≤ c ∧ Tms w w.heap.size A n l := by
  rcases open_slice_pairs Try.underlying27 Try.underlying73 (by kernel_rfl) rfl rfl (by kernel_rfl) (by kernel_rfl) hf with ⟨hcs, _⟩ | ⟨a, len, cap, m, n, V0, V1, D0, D1, P0, P1, hcs, _, hl, hm, hmm, _, hx⟩
  · simp only [List.cons.injEq, and_true] at hcs
    subst hcs
    exact ⟨none, 0, 0, [], rfl, Nat.le_refl _, Tms.none_⟩
  · simp only [List.cons.injEq, and_true] at hcs
    subst hcs
    have hlm : len ≤ m := by rw [hmm]; split <;> omega
    have each : ∀ i : Nat, ∃ t : Tm, i < len → w.cell? (a.add (i * 2)) = some (.int .i64 t.1) ∧ w.cell? (a.add (i * 2 + 1)) = some (.int .i64 t.2) := by
      intro i
      by_cases hi : i < len
      · obtain ⟨h0, h1, t0, t1⟩ := hx i (by omega)
        obtain ⟨x, e0, _, _⟩ := DataW.trod_int Try.underlying3 t0
        obtain ⟨y, e1, _, _⟩ := DataW.trod_int Try.underlying3 t1
        simp only [List.cons.injEq, and_true] at e0 e1
        rw [e0] at h0
        rw [e1] at h1
        exact ⟨(x, y), fun _ => ⟨h0, h1⟩⟩
      · exact ⟨(0, 0), fun h => absurd h hi⟩
    obtain ⟨F, hF⟩ := Classical.axiomOfChoice each
    refine ⟨some a, len, cap, (List.range len).map F, rfl, hl, by simp, by rw [T2_len]; simp, fun h0 => ⟨a, rfl, ?_, fun j u hu => ?_⟩⟩
    · have := World.block_lt_of_cell? w _ (hF 0 h0).1
      rwa [block_of_add] at this
    · have hj : j < len * 2 := by
        have := (List.getElem?_eq_some_iff.1 hu).1
        rw [T2_len] at this
        simpa using this
      have hat : ((List.range len).map F)[j / 2]? = some (F (j / 2)) := by
        rw [List.getElem?_map, List.getElem?_range (by omega)]
        rfl
      obtain ⟨e0, e1⟩ := T2_at _ _ _ hat
      obtain ⟨c0, c1⟩ := hF (j / 2) (by omega)
      rcases Nat.mod_two_eq_zero_or_one j with h2 | h2
      · have e : j = j / 2 * 2 := by omega
        rw [← e] at e0 c0
        rw [e0] at hu
        injection hu with hu
        rw [c0, hu]
      · have e : j = j / 2 * 2 + 1 := by omega
        rw [← e] at e1 c1
        rw [e1] at hu
        injection hu with hu
        rw [c1, hu]
theorem mass_at {n0 : Nat} {c0 c1 c2 c3 c4 c5 c6 c7 c8 c9 c10 c11 : Value} {y : DataW H × List MemPlace} (hf : DataW.trod enc Try.prog w 0 (fun _ => true) true n0 26 [c0, c1, c2, c3, c4, c5, c6, c7, c8, c9, c10, c11] = some y) :
    ∃ (ag0 : Bool) (aX0 : Option Addr) (an0 ac0 : Nat) (ae0 : Int) (ag1 : Bool) (aX1 : Option Addr) (an1 ac1 : Nat) (ae1 : Int) (ag2 : Bool) (aX2 : Option Addr) (an2 ac2 : Nat) (ae2 : Int) (ag3 : Bool) (aX3 : Option Addr) (an3 ac3 : Nat) (ae3 : Int) (m : Ms), c0 = .bool ag0 ∧ c1 = .slice aX0 an0 ac0 ∧ c2 = .int .i64 ae0 ∧ c3 = .bool ag1 ∧ c4 = .slice aX1 an1 ac1 ∧ c5 = .int .i64 ae1 ∧ c6 = .bool ag2 ∧ c7 = .slice aX2 an2 ac2 ∧ c8 = .int .i64 ae2 ∧ c9 = .bool ag3 ∧ c10 = .slice aX3 an3 ac3 ∧ c11 = .int .i64 ae3 ∧ RdM w w.heap.size ag0 aX0 an0 ac0 ae0 ag1 aX1 an1 ac1 ae1 ag2 aX2 an2 ac2 ae2 ag3 aX3 an3 ac3 ae3 m ∧ ltM m := by
  obtain ⟨y0, y1, y2, y3, n, _, _, t0, t1, t2, t3⟩ := trod_struct4 Try.underlying26 hf
  have hk : Try.prog.cellsOf 24 = 3 := by kernel_rfl
  dsimp only at t0 t1 t2 t3
  rw [hk] at t0 t1 t2 t3
  simp only [List.drop_succ_cons, List.drop_zero, List.take_succ_cons, List.take_zero] at t0 t1 t2 t3
  obtain ⟨g0, X0, n0, d0, e0, l0, a0, b0, z0, r0, u0⟩ := dyad_at Try.underlying24 (by kernel_rfl) rfl rfl rfl Try.underlying4 Try.underlying22 Try.underlying52 (by kernel_rfl) Try.underlying3 t0
  obtain ⟨g1, X1, n1, d1, e1, l1, a1, b1, z1, r1, u1⟩ := dyad_at Try.underlying24 (by kernel_rfl) rfl rfl rfl Try.underlying4 Try.underlying22 Try.underlying52 (by kernel_rfl) Try.underlying3 t1
  obtain ⟨g2, X2, n2, d2, e2, l2, a2, b2, z2, r2, u2⟩ := dyad_at Try.underlying24 (by kernel_rfl) rfl rfl rfl Try.underlying4 Try.underlying22 Try.underlying52 (by kernel_rfl) Try.underlying3 t2
  obtain ⟨g3, X3, n3, d3, e3, l3, a3, b3, z3, r3, u3⟩ := dyad_at Try.underlying24 (by kernel_rfl) rfl rfl rfl Try.underlying4 Try.underlying22 Try.underlying52 (by kernel_rfl) Try.underlying3 t3
  exact ⟨g0, X0, n0, d0, e0, g1, X1, n1, d1, e1, g2, X2, n2, d2, e2, g3, X3, n3, d3, e3, ⟨⟨g0, l0, e0⟩, ⟨g1, l1, e1⟩, ⟨g2, l2, e2⟩, ⟨g3, l3, e3⟩⟩, a0, b0, z0, a1, b1, z1, a2, b2, z2, a3, b3, z3, ⟨r0, r1, r2, r3⟩, u0, u1, u2, u3⟩
set_option maxRecDepth 100000 in
set_option maxHeartbeats 4000000 in
theorem mail_at {n0 : Nat} {c0 c1 c2 c3 c4 c5 c6 c7 c8 c9 c10 c11 c12 c13 c14 c15 c16 c17 c18 c19 c20 c21 c22 c23 : Value} {y : DataW H × List MemPlace} (hf : DataW.trod enc Try.prog w 0 (fun _ => true) true n0 31 [c0, c1, c2, c3, c4, c5, c6, c7, c8, c9, c10, c11, c12, c13, c14, c15, c16, c17, c18, c19, c20, c21, c22, c23] = some y) :
    ∃ o : MO, .agg #[c0, c1, c2, c3, c4, c5, c6, c7, c8, c9, c10, c11, c12, c13, c14, c15, c16, c17, c18, c19, c20, c21, c22, c23] = aggL o ∧ rdL w w.heap.size o ∧ ltL o.x ∧ (0 ≤ o.x.kd ∧ o.x.kd < 256) := by
  obtain ⟨xs, n, _, _, _, hl, hx⟩ := DataW.trod_struct Try.underlying31 hf
  have t0 := hx 0 _ rfl
  have t1 := hx 1 _ rfl
  have t2 := hx 2 _ rfl
  have t3 := hx 3 _ rfl
  have t4 := hx 4 _ rfl
  have t5 := hx 5 _ rfl
  have t6 := hx 6 _ rfl
  have t7 := hx 7 _ rfl
  have t8 := hx 8 _ rfl
  have t9 := hx 9 _ rfl
  have t10 := hx 10 _ rfl
  match xs, hl with
  | [y0, y1, y2, y3, y4, y5, y6, y7, y8, y9, y10], _ =>
  simp only [List.getElem_toArray, List.getElem_cons_zero, List.getElem_cons_succ, List.getElem?_cons_zero, List.getElem?_cons_succ] at t0 t1 t2 t3 t4 t5 t6 t7 t8 t9 t10
  rw [show Try.prog.cellsOf 5 = 1 by kernel_rfl] at t0
  rw [show Try.prog.cellsOf 3 = 1 by kernel_rfl] at t1 t2 t3 t4 t5
  rw [show Try.prog.cellsOf 26 = 12 by kernel_rfl] at t6
  rw [show Try.prog.cellsOf 4 = 1 by kernel_rfl] at t7
  rw [show Try.prog.cellsOf 27 = 1 by kernel_rfl] at t8
  rw [show Try.prog.cellsOf 29 = 3 by kernel_rfl] at t9
  rw [show Try.prog.cellsOf 22 = 1 by kernel_rfl] at t10
  simp only [List.drop_succ_cons, List.drop_zero, List.take_succ_cons, List.take_zero] at t0 t1 t2 t3 t4 t5 t6 t7 t8 t9 t10
  obtain ⟨a0, q0, _, v0⟩ := DataW.trod_int Try.underlying5 t0
  obtain ⟨a1, q1, _, _⟩ := DataW.trod_int Try.underlying3 t1
  obtain ⟨a2, q2, _, _⟩ := DataW.trod_int Try.underlying3 t2
  obtain ⟨a3, q3, _, _⟩ := DataW.trod_int Try.underlying3 t3
  obtain ⟨a4, q4, _, _⟩ := DataW.trod_int Try.underlying3 t4
  obtain ⟨a5, q5, _, _⟩ := DataW.trod_int Try.underlying3 t5
  obtain ⟨b7, q7, _⟩ := DataW.trod_bool Try.underlying4 t7
  obtain ⟨z0, z1, z2, m9, _, _, s0, s1, s2⟩ := trod_struct3 Try.underlying29 t9
  dsimp only at s0 s1 s2
  rw [show Try.prog.cellsOf 4 = 1 by kernel_rfl] at s0
  rw [show Try.prog.cellsOf 3 = 1 by kernel_rfl] at s1 s2
  simp only [List.drop_succ_cons, List.drop_zero, List.take_succ_cons, List.take_zero] at s0 s1 s2
  obtain ⟨b9, r0, _⟩ := DataW.trod_bool Try.underlying4 s0
  obtain ⟨f1, r1, _, _⟩ := DataW.trod_int Try.underlying3 s1
  obtain ⟨f2, r2, _, _⟩ := DataW.trod_int Try.underlying3 s2
  simp only [List.cons.injEq, and_true] at q0 q1 q2 q3 q4 q5 q7 r0 r1 r2
  obtain ⟨g0, X0, n0, d0, e0, g1, X1, n1, d1, e1, g2, X2, n2, d2, e2, g3, X3, n3, d3, e3, m, h0, h1, h2, h3, h4, h5, h6, h7, h8, h9, h10, h11, hr, hlt⟩ := mass_at t6
  obtain ⟨D, dn, dc, dl, qd, _, hd⟩ := tms_at t8
  obtain ⟨L, ln, lc, zs, ql, _, hzl, hR, hwf⟩ := open_field Try.underlying22 Try.underlying52 (by kernel_rfl) t10
  rw [ints_of (fun z hz => (u32_range (hwf z hz)).1)] at hR
  obtain rfl := hd.1
  obtain rfl := hzl
  obtain ⟨i1, i2, i3, i4, i5⟩ := hr.1
  obtain ⟨j1, j2, j3, j4, j5⟩ := hr.2.1
  obtain ⟨k1, k2, k3, k4, k5⟩ := hr.2.2.1
  obtain ⟨l1, l2, l3, l4, l5⟩ := hr.2.2.2
  subst i1 i2 i3 j1 j2 j3 k1 k2 k3 l1 l2 l3
  refine ⟨⟨⟨a0, a1, a2, a3, a4, a5, m, b7, dl, b9, f1, f2, zs.map Int.toNat⟩, X0, d0, X1, d1, X2, d2, X3, d3, D, dc, L, lc⟩, ?_, ⟨hr, hd, by simpa using hR⟩, ⟨hlt, fun x hx => ?_⟩, u8_range v0⟩
  · subst q0 q1 q2 q3 q4 q5 h0 h1 h2 h3 h4 h5 h6 h7 h8 h9 h10 h11 q7 qd r0 r1 r2 ql
    simp [aggL]
  · obtain ⟨z, hz', rfl⟩ := List.mem_map.1 hx
    have := u32_range (hwf z hz')
    omega
set_option maxRecDepth 100000 in
theorem open_mail {r : Reach} {b0 : Nat} {v : Value} {d : DataW H} {p : List MemPlace} (hv : Value.okWide Try.prog w r b0 31 v) (h : DataW.Trod enc Try.prog w 0 (fun _ => true) true 31 v d p) :
    ∃ o : MO, v = aggL o ∧ rdL w w.heap.size o ∧ ltL o.x ∧ (0 ≤ o.x.kd ∧ o.x.kd < 256) := by
  have hC : Try.prog.cellsOf 31 = 24 := by kernel_rfl
  obtain ⟨cs, rfl, hsz⟩ := okWide_struct Try.underlying31 hv
  obtain ⟨l⟩ := cs
  match l, hsz.trans hC with
  | [c0, c1, c2, c3, c4, c5, c6, c7, c8, c9, c10, c11, c12, c13, c14, c15, c16, c17, c18, c19, c20, c21, c22, c23], _ =>
    obtain ⟨fuel, hf⟩ := h
    exact mail_at (by simpa [Value.cells] using hf)
end
end Go.Proofs.Ytjmhefkmpfkpbaa
namespace Go.Proofs.Ytjmhefkmpfkpbaa
open Go.ChangeShapes Go.WideShapes Go.ChangeAt Go.RowKit
set_option linter.unusedSimpArgs false
set_option linter.unusedVariables false
set_option maxRecDepth 100000
theorem wpList_abs2 {P : Program} {ops : Array Oper} {Q : Exit → Act → World → Prop} {a : Act} {w : World} {l : List Oper} (n t1 t2 : Nat) (v1 v2 : Value) (hs : a.tmps.size = n) (hd : a.defers = []) (h1 : tv a t1 = v1) (h2 : tv a t2 = v2) (h : ∀ a' : Act, Sx a' n [(t1, gv true v1), (t2, gv true v2)] → wpList P ops Q l a' w) : wpList P ops Q l a w := h a (Sx.two hs hd h1 h2)
theorem ml_eq {a b : Ml} (h : a.kd = b.kd ∧ a.fr = b.fr ∧ a.tt = b.tt ∧ a.ep = b.ep ∧ a.nu = b.nu ∧ a.ab = b.ab ∧ a.give = b.give ∧ a.wa = b.wa ∧ a.ds = b.ds ∧ a.eh = b.eh ∧ a.e1 = b.e1 ∧ a.e2 = b.e2 ∧ a.ls = b.ls) : a = b := by
  cases a; cases b
  simp only at h
  obtain ⟨h0, h1, h2, h3, h4, h5, h6, h7, h8, h9, h10, h11, h12⟩ := h
  subst h0 h1 h2 h3 h4 h5 h6 h7 h8 h9 h10 h11 h12
  rfl
theorem ml_dec (a b : Ml) : ((((((((((((a.kd == b.kd) && (a.fr == b.fr)) && (a.tt == b.tt)) && (a.ep == b.ep)) && (a.nu == b.nu)) && (a.ab == b.ab)) && decide (a.give = b.give)) && (a.wa == b.wa)) && decide (a.ds = b.ds)) && ((a.eh == b.eh) && ((a.e1 == b.e1) && (a.e2 == b.e2)))) && decide (a.ls = b.ls))) = decide (a = b) := by
  rw [Bool.eq_iff_iff]
  constructor
  · intro h
    simp only [Bool.and_eq_true, beq_iff_eq, decide_eq_true_eq] at h
    obtain ⟨⟨⟨⟨⟨⟨⟨⟨⟨⟨h0, h1⟩, h2⟩, h3⟩, h4⟩, h5⟩, h6⟩, h7⟩, h8⟩, h9, h10, h11⟩, h12⟩ := h
    exact decide_eq_true (ml_eq ⟨h0, h1, h2, h3, h4, h5, h6, h7, h8, h9, h10, h11, h12⟩)
  · intro h
    obtain rfl := of_decide_eq_true h
    simp
set_option maxHeartbeats 32000000 in
theorem lsameA (a0 b0 : MO) (w : World) (qm qd ql R : Bool) (hR : (((((((((((a0.x.kd == b0.x.kd) && (a0.x.fr == b0.x.fr)) && (a0.x.tt == b0.x.tt)) && (a0.x.ep == b0.x.ep)) && (a0.x.nu == b0.x.nu)) && (a0.x.ab == b0.x.ab)) && qm) && (a0.x.wa == b0.x.wa)) && qd) && ((a0.x.eh == b0.x.eh) && ((a0.x.e1 == b0.x.e1) && (a0.x.e2 == b0.x.e2)))) && ql) = R) (hm : ∀ w', Below w.heap.size w w' → Calls Try.prog 27 #[.agg #[.bool a0.x.give.s.neg, .slice a0.X0 a0.x.give.s.ls.length a0.c0, .int .i64 a0.x.give.s.ex, .bool a0.x.give.w.neg, .slice a0.X1 a0.x.give.w.ls.length a0.c1, .int .i64 a0.x.give.w.ex, .bool a0.x.give.c.neg, .slice a0.X2 a0.x.give.c.ls.length a0.c2, .int .i64 a0.x.give.c.ex, .bool a0.x.give.a.neg, .slice a0.X3 a0.x.give.a.ls.length a0.c3, .int .i64 a0.x.give.a.ex], .agg #[.bool b0.x.give.s.neg, .slice b0.X0 b0.x.give.s.ls.length b0.c0, .int .i64 b0.x.give.s.ex, .bool b0.x.give.w.neg, .slice b0.X1 b0.x.give.w.ls.length b0.c1, .int .i64 b0.x.give.w.ex, .bool b0.x.give.c.neg, .slice b0.X2 b0.x.give.c.ls.length b0.c2, .int .i64 b0.x.give.c.ex, .bool b0.x.give.a.neg, .slice b0.X3 b0.x.give.a.ls.length b0.c3, .int .i64 b0.x.give.a.ex]] w' fun en w'' => en = .returned (.bool qm) ∧ Below w'.heap.size w' w'') (hd : ∀ w', Below w.heap.size w w' → Calls Try.prog 28 #[.slice a0.D a0.x.ds.length a0.dc, .slice b0.D b0.x.ds.length b0.dc] w' fun en w'' => en = .returned (.bool qd) ∧ Below w'.heap.size w' w'') (hl : ∀ w', Below w.heap.size w w' → Calls Try.prog 29 #[.slice a0.L a0.x.ls.length a0.lc, .slice b0.L b0.x.ls.length b0.lc] w' fun en w'' => en = .returned (.bool ql) ∧ Below w'.heap.size w' w'') : Calls Try.prog 11 #[aggL a0, aggL b0] w fun en w' => en = .returned (.bool R) ∧ Below w.heap.size w w' := by
  unfold aggL
  obtain ⟨V, hV⟩ : ∃ V, V = ((w.alloc (.cells #[.int .u8 a0.x.kd, .int .i64 a0.x.fr, .int .i64 a0.x.tt, .int .i64 a0.x.ep, .int .i64 a0.x.nu, .int .i64 a0.x.ab, .bool a0.x.give.s.neg, .slice a0.X0 a0.x.give.s.ls.length a0.c0, .int .i64 a0.x.give.s.ex, .bool a0.x.give.w.neg, .slice a0.X1 a0.x.give.w.ls.length a0.c1, .int .i64 a0.x.give.w.ex, .bool a0.x.give.c.neg, .slice a0.X2 a0.x.give.c.ls.length a0.c2, .int .i64 a0.x.give.c.ex, .bool a0.x.give.a.neg, .slice a0.X3 a0.x.give.a.ls.length a0.c3, .int .i64 a0.x.give.a.ex, .bool a0.x.wa, .slice a0.D a0.x.ds.length a0.dc, .bool a0.x.eh, .int .i64 a0.x.e1, .int .i64 a0.x.e2, .slice a0.L a0.x.ls.length a0.lc] 31)).alloc (.cells #[.int .u8 b0.x.kd, .int .i64 b0.x.fr, .int .i64 b0.x.tt, .int .i64 b0.x.ep, .int .i64 b0.x.nu, .int .i64 b0.x.ab, .bool b0.x.give.s.neg, .slice b0.X0 b0.x.give.s.ls.length b0.c0, .int .i64 b0.x.give.s.ex, .bool b0.x.give.w.neg, .slice b0.X1 b0.x.give.w.ls.length b0.c1, .int .i64 b0.x.give.w.ex, .bool b0.x.give.c.neg, .slice b0.X2 b0.x.give.c.ls.length b0.c2, .int .i64 b0.x.give.c.ex, .bool b0.x.give.a.neg, .slice b0.X3 b0.x.give.a.ls.length b0.c3, .int .i64 b0.x.give.a.ex, .bool b0.x.wa, .slice b0.D b0.x.ds.length b0.dc, .bool b0.x.eh, .int .i64 b0.x.e1, .int .i64 b0.x.e2, .slice b0.L b0.x.ls.length b0.lc] 31)) := ⟨_, rfl⟩
  have hB : Below w.heap.size w V := by rw [hV]; exact ((Below.refl _ _).alloc (Nat.le_refl _) _).alloc (by simp) _
  have kb : Blk V w.heap.size 31 #[.int .u8 a0.x.kd, .int .i64 a0.x.fr, .int .i64 a0.x.tt, .int .i64 a0.x.ep, .int .i64 a0.x.nu, .int .i64 a0.x.ab, .bool a0.x.give.s.neg, .slice a0.X0 a0.x.give.s.ls.length a0.c0, .int .i64 a0.x.give.s.ex, .bool a0.x.give.w.neg, .slice a0.X1 a0.x.give.w.ls.length a0.c1, .int .i64 a0.x.give.w.ex, .bool a0.x.give.c.neg, .slice a0.X2 a0.x.give.c.ls.length a0.c2, .int .i64 a0.x.give.c.ex, .bool a0.x.give.a.neg, .slice a0.X3 a0.x.give.a.ls.length a0.c3, .int .i64 a0.x.give.a.ex, .bool a0.x.wa, .slice a0.D a0.x.ds.length a0.dc, .bool a0.x.eh, .int .i64 a0.x.e1, .int .i64 a0.x.e2, .slice a0.L a0.x.ls.length a0.lc] := by rw [hV]; exact (Blk.new w _ _).alloc _
  have kc : Blk V (w.heap.size + 1) 31 #[.int .u8 b0.x.kd, .int .i64 b0.x.fr, .int .i64 b0.x.tt, .int .i64 b0.x.ep, .int .i64 b0.x.nu, .int .i64 b0.x.ab, .bool b0.x.give.s.neg, .slice b0.X0 b0.x.give.s.ls.length b0.c0, .int .i64 b0.x.give.s.ex, .bool b0.x.give.w.neg, .slice b0.X1 b0.x.give.w.ls.length b0.c1, .int .i64 b0.x.give.w.ex, .bool b0.x.give.c.neg, .slice b0.X2 b0.x.give.c.ls.length b0.c2, .int .i64 b0.x.give.c.ex, .bool b0.x.give.a.neg, .slice b0.X3 b0.x.give.a.ls.length b0.c3, .int .i64 b0.x.give.a.ex, .bool b0.x.wa, .slice b0.D b0.x.ds.length b0.dc, .bool b0.x.eh, .int .i64 b0.x.e1, .int .i64 b0.x.e2, .slice b0.L b0.x.ls.length b0.lc] := by rw [hV]; simpa using Blk.new (w.alloc (.cells #[.int .u8 a0.x.kd, .int .i64 a0.x.fr, .int .i64 a0.x.tt, .int .i64 a0.x.ep, .int .i64 a0.x.nu, .int .i64 a0.x.ab, .bool a0.x.give.s.neg, .slice a0.X0 a0.x.give.s.ls.length a0.c0, .int .i64 a0.x.give.s.ex, .bool a0.x.give.w.neg, .slice a0.X1 a0.x.give.w.ls.length a0.c1, .int .i64 a0.x.give.w.ex, .bool a0.x.give.c.neg, .slice a0.X2 a0.x.give.c.ls.length a0.c2, .int .i64 a0.x.give.c.ex, .bool a0.x.give.a.neg, .slice a0.X3 a0.x.give.a.ls.length a0.c3, .int .i64 a0.x.give.a.ex, .bool a0.x.wa, .slice a0.D a0.x.ds.length a0.dc, .bool a0.x.eh, .int .i64 a0.x.e1, .int .i64 a0.x.e2, .slice a0.L a0.x.ls.length a0.lc] 31)) 31 #[.int .u8 b0.x.kd, .int .i64 b0.x.fr, .int .i64 b0.x.tt, .int .i64 b0.x.ep, .int .i64 b0.x.nu, .int .i64 b0.x.ab, .bool b0.x.give.s.neg, .slice b0.X0 b0.x.give.s.ls.length b0.c0, .int .i64 b0.x.give.s.ex, .bool b0.x.give.w.neg, .slice b0.X1 b0.x.give.w.ls.length b0.c1, .int .i64 b0.x.give.w.ex, .bool b0.x.give.c.neg, .slice b0.X2 b0.x.give.c.ls.length b0.c2, .int .i64 b0.x.give.c.ex, .bool b0.x.give.a.neg, .slice b0.X3 b0.x.give.a.ls.length b0.c3, .int .i64 b0.x.give.a.ex, .bool b0.x.wa, .slice b0.D b0.x.ds.length b0.dc, .bool b0.x.eh, .int .i64 b0.x.e1, .int .i64 b0.x.e2, .slice b0.L b0.x.ls.length b0.lc]
  go_enter Try.func11, Try.ntmps11
  go_upto_region 1 with (fail)
  rename_i Q0 K1 k1
  rw [← hV]
  clear hV
  refine wp_region_lit ?_
  refine wpList_abs2 80 2 3 (.pointer (some ⟨w.heap.size, 0, none⟩)) (.pointer (some ⟨w.heap.size + 1, 0, none⟩)) rfl rfl rfl rfl ?_
  intro a S
  refine qF (fun a S => ?_); refine qL kb (fun a S => ?_); refine qF (fun a S => ?_); refine qL kc (fun a S => ?_); refine qEqI (fun a S => ?_); refine qMv (fun a S => ?_); refine qF (fun a S => ?_); refine qL kb (fun a S => ?_); refine qF (fun a S => ?_); refine qL kc (fun a S => ?_); refine qEqI (fun a S => ?_); refine qAnd (fun a S => ?_); refine qMv (fun a S => ?_); refine qF (fun a S => ?_); refine qL kb (fun a S => ?_); refine qF (fun a S => ?_); refine qL kc (fun a S => ?_); refine qEqI (fun a S => ?_); refine qAnd (fun a S => ?_); refine qMv (fun a S => ?_); refine qF (fun a S => ?_); refine qL kb (fun a S => ?_); refine qF (fun a S => ?_); refine qL kc (fun a S => ?_); refine qEqI (fun a S => ?_); refine qAnd (fun a S => ?_); refine qMv (fun a S => ?_); refine qF (fun a S => ?_); refine qL kb (fun a S => ?_); refine qF (fun a S => ?_); refine qL kc (fun a S => ?_); refine qEqI (fun a S => ?_); refine qAnd (fun a S => ?_); refine qMv (fun a S => ?_); refine qF (fun a S => ?_); refine qL kb (fun a S => ?_); refine qF (fun a S => ?_); refine qL kc (fun a S => ?_); refine qEqI (fun a S => ?_); refine qAnd (fun a S => ?_); refine qMv (fun a S => ?_); refine qF (fun a S => ?_)
  refine qR kb [.bool a0.x.give.s.neg, .slice a0.X0 a0.x.give.s.ls.length a0.c0, .int .i64 a0.x.give.s.ex, .bool a0.x.give.w.neg, .slice a0.X1 a0.x.give.w.ls.length a0.c1, .int .i64 a0.x.give.w.ex, .bool a0.x.give.c.neg, .slice a0.X2 a0.x.give.c.ls.length a0.c2, .int .i64 a0.x.give.c.ex, .bool a0.x.give.a.neg, .slice a0.X3 a0.x.give.a.ls.length a0.c3, .int .i64 a0.x.give.a.ex] (fun a S => ?_)
  refine qF (fun a S => ?_)
  refine qR kc [.bool b0.x.give.s.neg, .slice b0.X0 b0.x.give.s.ls.length b0.c0, .int .i64 b0.x.give.s.ex, .bool b0.x.give.w.neg, .slice b0.X1 b0.x.give.w.ls.length b0.c1, .int .i64 b0.x.give.w.ex, .bool b0.x.give.c.neg, .slice b0.X2 b0.x.give.c.ls.length b0.c2, .int .i64 b0.x.give.c.ex, .bool b0.x.give.a.neg, .slice b0.X3 b0.x.give.a.ls.length b0.c3, .int .i64 b0.x.give.a.ex] (fun a S => ?_)
  refine qC2 (hm _ hB) (fun a w1 hb S => ?_); replace kb := kb.below hb kb.lt; replace kc := kc.below hb kc.lt; replace hB := hB.trans (hb.mono hB.size); clear hb
  refine qAnd (fun a S => ?_); refine qMv (fun a S => ?_); refine qF (fun a S => ?_); refine qL kb (fun a S => ?_); refine qF (fun a S => ?_); refine qL kc (fun a S => ?_); refine qEqB (fun a S => ?_); refine qAnd (fun a S => ?_); refine qMv (fun a S => ?_); refine qF (fun a S => ?_); refine qL kb (fun a S => ?_); refine qF (fun a S => ?_); refine qL kc (fun a S => ?_)
  refine qC2 (hd _ hB) (fun a w1 hb S => ?_); replace kb := kb.below hb kb.lt; replace kc := kc.below hb kc.lt; replace hB := hB.trans (hb.mono hB.size); clear hb
  refine qAnd (fun a S => ?_); refine qMv (fun a S => ?_); refine qF (fun a S => ?_)
  refine qR kb [.bool a0.x.eh, .int .i64 a0.x.e1, .int .i64 a0.x.e2] (fun a S => ?_)
  refine qF (fun a S => ?_)
  refine qR kc [.bool b0.x.eh, .int .i64 b0.x.e1, .int .i64 b0.x.e2] (fun a S => ?_)
  refine sx2 68 70 S (.bool ((a0.x.eh == b0.x.eh) && ((a0.x.e1 == b0.x.e1) && (a0.x.e2 == b0.x.e2)))) (wG S rfl rfl (by decide) rfl) rfl rfl id id (fun ev ec e e2 => by go_simp; by_cases x1 : a0.x.eh = b0.x.eh <;> by_cases x2 : a0.x.e1 = b0.x.e1 <;> by_cases x3 : a0.x.e2 = b0.x.e2 <;> simp [x1, x2, x3]) ?_; intro a S
  refine qAnd (fun a S => ?_); refine qMv (fun a S => ?_); refine qF (fun a S => ?_); refine qL kb (fun a S => ?_); refine qF (fun a S => ?_); refine qL kc (fun a S => ?_)
  refine qC2 (hl _ hB) (fun a w1 hb S => ?_); replace kb := kb.below hb kb.lt; replace kc := kc.below hb kc.lt; replace hB := hB.trans (hb.mono hB.size); clear hb
  refine qAnd (fun a S => ?_); refine qAs (fun a S => ?_)
  refine wpList_nil ?_
  refine k1 _ _ ?_
  refine wp_ret ?_
  show Q0 .ret a _
  refine bodyPost_ret (v := .bool R) ?_ S.df ⟨rfl, hB⟩
  exact (results_tmp rfl _ _ _).trans (by rw [show a.tmps.getD 4 undef = _ from S.fx 4 _ rfl]; exact congrArg (fun x => Result.ok (Value.bool x) _) (hR))
theorem mlsame_any (a b : MO) (hsa : smL a.x) (hsb : smL b.x) (w : World) (ra : rdL w w.heap.size a) (rb : rdL w w.heap.size b) (R : Bool) (hR : decide (a.x = b.x) = R) : Calls Try.prog 11 #[aggL a, aggL b] w fun en w' => en = .returned (.bool R) ∧ Below w.heap.size w w' :=
  lsameA a b w (decide (a.x.give = b.x.give)) (decide (a.x.ds = b.x.ds)) (decide (a.x.ls = b.x.ls)) R (by rw [← hR]; exact ml_dec a.x b.x)
    (fun w' h => msame_any _ _ _ _ _ _ _ _ _ _ _ _ _ _ _ _ _ _ _ _ _ _ _ _ _ _ _ _ _ _ _ _ _ _ _ _ _ _ _ _ a.x.give b.x.give hsa.1 hsb.1 w' (ra.below h h.size).1 (rb.below h h.size).1 _ rfl)
    (fun w' h => (descsame_any a.D b.D a.x.ds.length b.x.ds.length a.dc b.dc _ _ a.x.ds b.x.ds (by have := hsa.2.1; omega) w' (ra.below h h.size).2.1 (rb.below h h.size).2.1 _ rfl).mono fun en w'' hh => ⟨hh.1, by obtain ⟨m, e⟩ := hh.2; rw [e]; exact below_drewN (Below.refl _ _) m⟩)
    (fun w' h => (lequal_any a.L b.L a.x.ls.length b.x.ls.length a.lc b.lc _ _ a.x.ls b.x.ls rfl rfl hsa.2.2 hsb.2.2 w' (ra.below h h.size).2.2 (rb.below h h.size).2.2).mono fun en w'' hh => ⟨by rw [hh.1], by obtain ⟨m, e⟩ := hh.2; rw [e]; exact below_drewN (Below.refl _ _) m⟩)
end Go.Proofs.Ytjmhefkmpfkpbaa
