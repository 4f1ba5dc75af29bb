/- Mail: great mails, the chapter's mail | Mail: the chapter's examples -/
import Derived.Test.YtjmhefkmpfkpbaaPPR
import Derived.Test.YtjmhefkmpfkpbaaBackP
namespace Go.Proofs.Ytjmhefkmpfkpbaa
open Go.ChangeShapes Go.WideShapes Go.ChangeAt Go.RowKit
set_option linter.unusedSimpArgs false
set_option linter.unusedVariables false
theorem cut2 (g : Nat) (x : Int) (hx : (x == 0) = false) (w : World) (h0 : w.cell? ⟨g, 0, none⟩ = some (.int .u32 x)) (h1 : w.cell? ⟨g, 1, none⟩ = some (.int .u32 0)) : Calls Try.prog 80 #[.slice (some ⟨g, 0, none⟩) 2 2] w fun en w' => en = .returned (.slice (some ⟨g, 0, none⟩) 1 1) ∧ w = w' := by
  go_enter Try.func80, Try.ntmps80
  go_wp2
  go_loop [3] (fun t => t = .int .i64 2 ∨ t = .int .i64 1) (fun t => (intOf t).toNat)
  case atStart => exact .inl rfl
  case round =>
    rcases hrel with rfl | rfl
    · go_wp2
      go_round
      case rel => exact .inr rfl
      case measure => simp [intOf]
    · go_wp2
      go_ret
      exact ⟨rfl, rfl⟩
theorem lof (x : Int) (hx : x = 6 ∨ x = 1) (w : World) : Calls Try.prog 49 #[.int .u64 x] w fun en w' => ∃ g, en = .returned (.slice (some ⟨g, 0, none⟩) 1 1) ∧ OwnR w' w.heap.size 52 (some ⟨g, 0, none⟩) 1 (ints .u32 [x.toNat]) ∧ Below w.heap.size w w' := by
  obtain ⟨V, hV⟩ : ∃ V, V = w.alloc (.cells #[.int .u32 x, .int .u32 0] 52) := ⟨_, rfl⟩
  have hB : Below w.heap.size w V := by rw [hV]; exact (Below.refl _ _).alloc (Nat.le_refl _) _
  have kb : Blk V w.heap.size 52 #[.int .u32 x, .int .u32 0] := by rw [hV]; exact Blk.new _ _ _
  have hx0 : (x == 0) = false := by rcases hx with rfl | rfl <;> rfl
  have hc := cut2 w.heap.size x hx0 V (by rw [kb.cell]; rfl) (by rw [kb.cell]; rfl)
  have ho : OwnR V w.heap.size 52 (some ⟨w.heap.size, 0, none⟩) 1 (ints .u32 [x.toNat]) := ⟨rfl, fun _ => ⟨w.heap.size, _, rfl, Nat.le_refl _, kb, by rcases hx with rfl | rfl <;> rfl⟩⟩
  rcases hx with rfl | rfl
  all_goals
    go_enter Try.func49, Try.ntmps49
    go_wp2_with fail
    rw [← hV]
    clear hV
    refine hc.mono ?_
    rintro en w1 ⟨rfl, rfl⟩
    go_wp2
    go_ret
    exact ⟨_, rfl, ho, hB⟩
theorem dof (x : Int) (hx : x = 6 ∨ x = 1) (w : World) : Calls Try.prog 22 #[.int .i64 x] w fun en w' => ∃ g, en = .returned (.agg #[.bool false, .slice (some ⟨g, 0, none⟩) 1 1, .int .i64 0]) ∧ OwnR w' w.heap.size 52 (some ⟨g, 0, none⟩) 1 (ints .u32 [x.toNat]) ∧ Below w.heap.size w w' := by
  obtain ⟨V, hV⟩ : ∃ V, V = w.alloc (.cells #[.bool false, .slice none 0 0, .int .i64 0] 24) := ⟨_, rfl⟩
  have hB : Below w.heap.size w V := by rw [hV]; exact (Below.refl _ _).alloc (Nat.le_refl _) _
  have kb : Blk V w.heap.size 24 #[.bool false, .slice none 0 0, .int .i64 0] := by rw [hV]; exact Blk.new _ _ _
  have hc := lof x hx V
  have hx0 : decide (x < 0) = false := by rcases hx with rfl | rfl <;> rfl
  rcases hx with rfl | rfl
  all_goals
    go_enter Try.func22, Try.ntmps22
    go_wp2_with fail
    rw [← hV]
    clear hV
    refine hc.mono ?_
    rintro en w1 ⟨g, rfl, ho, hb1⟩
    have k1 := kb.below hb1 kb.lt
    have z0 : w1.cell? ⟨w.heap.size, 0, none⟩ = some (.bool false) := by rw [k1.cell]; rfl
    have z1 : w1.cell? ⟨w.heap.size, 1, none⟩ = some (.slice none 0 0) := by rw [k1.cell]; rfl
    have z2 : w1.cell? ⟨w.heap.size, 2, none⟩ = some (.int .i64 0) := by rw [k1.cell]; rfl
    have f0 := k1.frozen 0
    have f1 := k1.frozen 1
    have f2 := k1.frozen 2
    have l1 := k1.lt
    have ho' := Lib.hid ho
    go_wp2
    obtain ⟨W9, hW9⟩ : ∃ W9, W9 = (((w1.setCell ⟨w.heap.size, 0, none⟩ (.bool false)).setCell ⟨w.heap.size, 1, none⟩ (.slice (some ⟨g, 0, none⟩) 1 1)).setCell ⟨w.heap.size, 2, none⟩ (.int .i64 0)).alloc (.cells #[.bool false, .slice (some ⟨g, 0, none⟩) 1 1, .int .i64 0] 24) := ⟨_, rfl⟩
    have k9 : Blk W9 w.heap.size 24 #[.bool false, .slice (some ⟨g, 0, none⟩) 1 1, .int .i64 0] := by rw [hW9]; exact (blk3 (i := 0) k1 (.bool false) (.slice (some ⟨g, 0, none⟩) 1 1) (.int .i64 0) rfl).alloc _
    have hb9 : Below w.heap.size w W9 := by rw [hW9]; exact ((((hB.trans (hb1.mono hB.size)).setCell (p := ⟨w.heap.size, 0, none⟩) (Nat.le_refl _) _).setCell (p := ⟨w.heap.size, 1, none⟩) (Nat.le_refl _) _).setCell (p := ⟨w.heap.size, 2, none⟩) (Nat.le_refl _) _).alloc (by simp only [World.size_setCell]; omega) _
    have hlt : w.heap.size < V.heap.size := kb.lt
    have ho9 : ∀ xs, OwnR w1 V.heap.size 52 (some ⟨g, 0, none⟩) 1 xs → OwnR W9 w.heap.size 52 (some ⟨g, 0, none⟩) 1 xs := fun xs ho => by rw [hW9]; exact ((((ho.far (p := ⟨w.heap.size, 0, none⟩) hlt _).far (p := ⟨w.heap.size, 1, none⟩) hlt _).far (p := ⟨w.heap.size, 2, none⟩) hlt _).below ((Below.refl _ _).alloc (Nat.le_refl _) _)).base_le (Nat.le_of_lt hlt)
    rw [← hW9]
    clear hW9
    have q0 : W9.cell? ⟨w.heap.size, 0, none⟩ = some (.bool false) := by rw [k9.cell]; rfl
    have q1 : W9.cell? ⟨w.heap.size, 1, none⟩ = some (.slice (some ⟨g, 0, none⟩) 1 1) := by rw [k9.cell]; rfl
    have q2 : W9.cell? ⟨w.heap.size, 2, none⟩ = some (.int .i64 0) := by rw [k9.cell]; rfl
    refine ⟨rfl, .agg #[.bool false, .slice (some ⟨g, 0, none⟩) 1 1, .int .i64 0], ?_, g, rfl, ho9 _ ho'.out, hb9⟩
    simp [results, Try.f22, go_sem, q0, q1, q2]
/-- Is a mail more than statements go through? -/
def grL (m : Ml) : Bool := grM m.give.s.ls.length m.give.s.ex m.give.w.ls.length m.give.w.ex m.give.c.ls.length m.give.c.ex m.give.a.ls.length m.give.a.ex || decide (70 < m.ds.length) || decide (70 < m.ls.length)
theorem grL_sm {m : Ml} (h : grL m = false) : smL m := by
  simp only [grL, grM, grD, Bool.or_eq_false_iff, decide_eq_false_iff_not] at h
  obtain ⟨⟨⟨⟨⟨⟨h0, _⟩, ⟨h1, _⟩⟩, ⟨h2, _⟩⟩, ⟨h3, _⟩⟩, h4⟩, h5⟩ := h
  exact ⟨⟨by omega, by omega, by omega, by omega⟩, by omega, by omega⟩
set_option maxRecDepth 100000 in
set_option maxHeartbeats 16000000 in
theorem lgreat_any (o : MO) (w : World) (R : Bool) (hR : grL o.x = R) : Calls Try.prog 9 #[aggL o] w fun en w' => en = .returned (.bool R) ∧ Below w.heap.size w w' := by
  obtain ⟨V, hV⟩ : ∃ V, V = w.alloc (.cells #[.int .u8 o.x.kd, .int .i64 o.x.fr, .int .i64 o.x.tt, .int .i64 o.x.ep, .int .i64 o.x.nu, .int .i64 o.x.ab, .bool o.x.give.s.neg, .slice o.X0 o.x.give.s.ls.length o.c0, .int .i64 o.x.give.s.ex, .bool o.x.give.w.neg, .slice o.X1 o.x.give.w.ls.length o.c1, .int .i64 o.x.give.w.ex, .bool o.x.give.c.neg, .slice o.X2 o.x.give.c.ls.length o.c2, .int .i64 o.x.give.c.ex, .bool o.x.give.a.neg, .slice o.X3 o.x.give.a.ls.length o.c3, .int .i64 o.x.give.a.ex, .bool o.x.wa, .slice o.D o.x.ds.length o.dc, .bool o.x.eh, .int .i64 o.x.e1, .int .i64 o.x.e2, .slice o.L o.x.ls.length o.lc] 31) := ⟨_, rfl⟩
  have hB : Below w.heap.size w V := by rw [hV]; exact (Below.refl _ _).alloc (Nat.le_refl _) _
  have ka : Blk V w.heap.size 31 #[.int .u8 o.x.kd, .int .i64 o.x.fr, .int .i64 o.x.tt, .int .i64 o.x.ep, .int .i64 o.x.nu, .int .i64 o.x.ab, .bool o.x.give.s.neg, .slice o.X0 o.x.give.s.ls.length o.c0, .int .i64 o.x.give.s.ex, .bool o.x.give.w.neg, .slice o.X1 o.x.give.w.ls.length o.c1, .int .i64 o.x.give.w.ex, .bool o.x.give.c.neg, .slice o.X2 o.x.give.c.ls.length o.c2, .int .i64 o.x.give.c.ex, .bool o.x.give.a.neg, .slice o.X3 o.x.give.a.ls.length o.c3, .int .i64 o.x.give.a.ex, .bool o.x.wa, .slice o.D o.x.ds.length o.dc, .bool o.x.eh, .int .i64 o.x.e1, .int .i64 o.x.e2, .slice o.L o.x.ls.length o.lc] := by rw [hV]; exact Blk.new w _ _
  obtain ⟨q0, hq0⟩ : ∃ q, grM o.x.give.s.ls.length o.x.give.s.ex o.x.give.w.ls.length o.x.give.w.ex o.x.give.c.ls.length o.x.give.c.ex o.x.give.a.ls.length o.x.give.a.ex = q := ⟨_, rfl⟩
  have hc := mgreat_any o.x.give.s.neg o.X0 o.x.give.s.ls.length o.c0 o.x.give.s.ex o.x.give.w.neg o.X1 o.x.give.w.ls.length o.c1 o.x.give.w.ex o.x.give.c.neg o.X2 o.x.give.c.ls.length o.c2 o.x.give.c.ex o.x.give.a.neg o.X3 o.x.give.a.ls.length o.c3 o.x.give.a.ex q0 hq0 V
  unfold grL at hR
  rw [hq0] at hR
  clear hq0
  obtain ⟨q1, hq1⟩ : ∃ q, decide (70 < o.x.ds.length) = q := ⟨_, rfl⟩
  obtain ⟨q2, hq2⟩ : ∃ q, decide (70 < o.x.ls.length) = q := ⟨_, rfl⟩
  have x1 : decide ((70 : Int) < (o.x.ds.length : Int)) = q1 := by rw [← hq1]; congr 1; simp only [eq_iff_iff]; omega
  have x2 : decide ((70 : Int) < (o.x.ls.length : Int)) = q2 := by rw [← hq2]; congr 1; simp only [eq_iff_iff]; omega
  rw [hq1, hq2] at hR
  subst hR
  have gka := Lib.hid ka
  obtain ⟨n1, hn1⟩ : ∃ n, o.x.ds.length = n := ⟨_, rfl⟩
  obtain ⟨n2, hn2⟩ : ∃ n, o.x.ls.length = n := ⟨_, rfl⟩
  have rg := ka.range 6 [.bool o.x.give.s.neg, .slice o.X0 o.x.give.s.ls.length o.c0, .int .i64 o.x.give.s.ex, .bool o.x.give.w.neg, .slice o.X1 o.x.give.w.ls.length o.c1, .int .i64 o.x.give.w.ex, .bool o.x.give.c.neg, .slice o.X2 o.x.give.c.ls.length o.c2, .int .i64 o.x.give.c.ex, .bool o.x.give.a.neg, .slice o.X3 o.x.give.a.ls.length o.c3, .int .i64 o.x.give.a.ex] rfl
  unfold aggL
  rw [hn1] at x1 gka
  rw [hn2] at x2 gka
  clear hq1 hq2 ka
  rw [hn1, hn2] at hV ⊢
  clear hn1 hn2
  cases q0 <;> cases q1 <;> cases q2
  all_goals
    go_enter Try.func9, Try.ntmps9
    go_upto_region 1 with (fail)
    rw [← hV]
    clear hV
    go_wp2_with (refine wpList_load_mid rfl 26 _ rfl w.heap.size 6 rfl [.bool o.x.give.s.neg, .slice o.X0 o.x.give.s.ls.length o.c0, .int .i64 o.x.give.s.ex, .bool o.x.give.w.neg, .slice o.X1 o.x.give.w.ls.length o.c1, .int .i64 o.x.give.w.ex, .bool o.x.give.c.neg, .slice o.X2 o.x.give.c.ls.length o.c2, .int .i64 o.x.give.c.ex, .bool o.x.give.a.neg, .slice o.X3 o.x.give.a.ls.length o.c3, .int .i64 o.x.give.a.ex] _ rg Try.underlying26 rfl (by kernel_rfl) ?_)
    refine hc.mono ?_
    rintro en w1 ⟨rfl, hb1⟩
    have k1 := gka.out.below hb1 gka.out.lt
    have c1 : w1.cell? ⟨w.heap.size, 19, none⟩ = some (.slice o.D n1 o.dc) := by rw [k1.cell]; rfl
    have c2 : w1.cell? ⟨w.heap.size, 23, none⟩ = some (.slice o.L n2 o.lc) := by rw [k1.cell]; rfl
    have hB1 := hB.trans (hb1.mono hB.size)
    clear hb1 k1 gka rg hc
    go_wp2
    go_ret
    exact ⟨rfl, hB1⟩
/-- The chapter's mail. -/
def pushL : Ml := ⟨1, 1, 2, 3, 4, 0, ⟨⟨false, [6], 0⟩, ⟨false, [1], 0⟩, zd, zd⟩, false, [], false, 0, 0, []⟩
theorem info_mail : (Try.prog.info? 31).map (·.size) = some 24 := by kernel_rfl
set_option maxRecDepth 100000 in
set_option maxHeartbeats 16000000 in
theorem push_any (w : World) : Calls Try.prog 21 #[] w fun en w' => ∃ om : MO, en = .returned (aggL om) ∧ om.x = pushL ∧ rdL w' w'.heap.size om ∧ Below w.heap.size w w' := by
  obtain ⟨V, hV⟩ : ∃ V, V = w.alloc (.cells #[.int .u8 0, .int .i64 0, .int .i64 0, .int .i64 0, .int .i64 0, .int .i64 0, .bool false, .slice none 0 0, .int .i64 0, .bool false, .slice none 0 0, .int .i64 0, .bool false, .slice none 0 0, .int .i64 0, .bool false, .slice none 0 0, .int .i64 0, .bool false, .slice none 0 0, .bool false, .int .i64 0, .int .i64 0, .slice none 0 0] 31) := ⟨_, rfl⟩
  have hB : Below w.heap.size w V := by rw [hV]; exact (Below.refl _ _).alloc (Nat.le_refl _) _
  have ka : Blk V w.heap.size 31 #[.int .u8 0, .int .i64 0, .int .i64 0, .int .i64 0, .int .i64 0, .int .i64 0, .bool false, .slice none 0 0, .int .i64 0, .bool false, .slice none 0 0, .int .i64 0, .bool false, .slice none 0 0, .int .i64 0, .bool false, .slice none 0 0, .int .i64 0, .bool false, .slice none 0 0, .bool false, .int .i64 0, .int .i64 0, .slice none 0 0] := by rw [hV]; exact Blk.new w _ _
  have hc := dof 6 (.inl rfl) V
  go_enter Try.func21, Try.ntmps21
  go_wp2_with fail
  rw [← hV]
  clear hV
  refine hc.mono ?_
  rintro en w1 ⟨g0, rfl, ho0, hb1⟩
  have hc1 := dof 1 (.inr rfl) w1
  clear hc
  go_wp2_with fail
  refine hc1.mono ?_
  rintro en w2 ⟨g1, rfl, ho1, hb2⟩
  clear hc1
  have k1 := ka.below hb1 ka.lt
  have k2 := k1.below hb2 k1.lt
  have s1 := hb1.size
  have s2 := hb2.size
  have hB2 := (hB.trans (hb1.mono hB.size)).trans (hb2.mono (by have := hB.size; omega))
  have r0 := (ho0.reads.below hb2).more hb2.size
  have r1 := ho1.reads
  have kf := k2.setRow #[.int .u8 1, .int .i64 1, .int .i64 2, .int .i64 3, .int .i64 4, .int .i64 0, .bool false, .slice (some ⟨g0, 0, none⟩) 1 1, .int .i64 0, .bool false, .slice (some ⟨g1, 0, none⟩) 1 1, .int .i64 0, .bool false, .slice none 0 0, .int .i64 0, .bool false, .slice none 0 0, .int .i64 0, .bool false, .slice none 0 0, .bool false, .int .i64 0, .int .i64 0, .slice none 0 0]
  have hf := below_setRow (g := w.heap.size) hB2 (Nat.le_refl _) #[.int .u8 1, .int .i64 1, .int .i64 2, .int .i64 3, .int .i64 4, .int .i64 0, .bool false, .slice (some ⟨g0, 0, none⟩) 1 1, .int .i64 0, .bool false, .slice (some ⟨g1, 0, none⟩) 1 1, .int .i64 0, .bool false, .slice none 0 0, .int .i64 0, .bool false, .slice none 0 0, .int .i64 0, .bool false, .slice none 0 0, .bool false, .int .i64 0, .int .i64 0, .slice none 0 0]
  have hlt : w.heap.size < w1.heap.size := k1.lt
  have hV0 : w.heap.size < V.heap.size := ka.lt
  have rd : ∀ (x : Nat) (g : Nat), V.heap.size ≤ g → Reads w2 w2.heap.size 1 (some ⟨g, 0, none⟩) 1 (ints .u32 [x]) → Reads (w2.setRow w.heap.size #[.int .u8 1, .int .i64 1, .int .i64 2, .int .i64 3, .int .i64 4, .int .i64 0, .bool false, .slice (some ⟨g0, 0, none⟩) 1 1, .int .i64 0, .bool false, .slice (some ⟨g1, 0, none⟩) 1 1, .int .i64 0, .bool false, .slice none 0 0, .int .i64 0, .bool false, .slice none 0 0, .int .i64 0, .bool false, .slice none 0 0, .bool false, .int .i64 0, .int .i64 0, .slice none 0 0]) (w2.setRow w.heap.size #[.int .u8 1, .int .i64 1, .int .i64 2, .int .i64 3, .int .i64 4, .int .i64 0, .bool false, .slice (some ⟨g0, 0, none⟩) 1 1, .int .i64 0, .bool false, .slice (some ⟨g1, 0, none⟩) 1 1, .int .i64 0, .bool false, .slice none 0 0, .int .i64 0, .bool false, .slice none 0 0, .int .i64 0, .bool false, .slice none 0 0, .bool false, .int .i64 0, .int .i64 0, .slice none 0 0]).heap.size 1 (some ⟨g, 0, none⟩) 1 (ints .u32 [x]) := fun x g hg h => ⟨h.1, fun h0 => by
    obtain ⟨ad, e, hb, hh⟩ := h.2 h0
    injection e with e
    subst e
    refine ⟨_, rfl, by rw [setRow_size]; exact hb, fun j u hu => ?_⟩
    rw [cell_setRow_other _ _ _ _ (by rw [block_of_add]; show g ≠ _; omega)]
    exact hh j u hu⟩
  have b0 : V.heap.size ≤ g0 := by
    obtain ⟨g', cur, hA, hg, _⟩ := ho0.2 (by omega)
    injection hA with hA
    injection hA with hA
    omega
  have b1 : V.heap.size ≤ g1 := by
    obtain ⟨g', cur, hA, hg, _⟩ := ho1.2 (by omega)
    injection hA with hA
    injection hA with hA
    omega
  have gfin : Hid (rdL (w2.setRow w.heap.size #[.int .u8 1, .int .i64 1, .int .i64 2, .int .i64 3, .int .i64 4, .int .i64 0, .bool false, .slice (some ⟨g0, 0, none⟩) 1 1, .int .i64 0, .bool false, .slice (some ⟨g1, 0, none⟩) 1 1, .int .i64 0, .bool false, .slice none 0 0, .int .i64 0, .bool false, .slice none 0 0, .int .i64 0, .bool false, .slice none 0 0, .bool false, .int .i64 0, .int .i64 0, .slice none 0 0]) (w2.setRow w.heap.size #[.int .u8 1, .int .i64 1, .int .i64 2, .int .i64 3, .int .i64 4, .int .i64 0, .bool false, .slice (some ⟨g0, 0, none⟩) 1 1, .int .i64 0, .bool false, .slice (some ⟨g1, 0, none⟩) 1 1, .int .i64 0, .bool false, .slice none 0 0, .int .i64 0, .bool false, .slice none 0 0, .int .i64 0, .bool false, .slice none 0 0, .bool false, .int .i64 0, .int .i64 0, .slice none 0 0]).heap.size (⟨pushL, some ⟨g0, 0, none⟩, 1, some ⟨g1, 0, none⟩, 1, none, 0, none, 0, none, 0, none, 0⟩ : MO)) := Lib.hid ⟨⟨⟨rfl, rfl, rfl, Nat.le_refl _, rd 6 g0 b0 r0⟩, ⟨rfl, rfl, rfl, Nat.le_refl _, rd 1 g1 b1 r1⟩, rdD_zd _ _, rdD_zd _ _⟩, Tms.none_, Reads.none_⟩
  clear rd r0 r1 ho0 ho1 hb1 hb2 ka k1 b0 b1
  go_wp2_with (refine wpList_store_row rfl 31 _ _ rfl w.heap.size #[.int .u8 1, .int .i64 1, .int .i64 2, .int .i64 3, .int .i64 4, .int .i64 0, .bool false, .slice (some ⟨g0, 0, none⟩) 1 1, .int .i64 0, .bool false, .slice (some ⟨g1, 0, none⟩) 1 1, .int .i64 0, .bool false, .slice none 0 0, .int .i64 0, .bool false, .slice none 0 0, .int .i64 0, .bool false, .slice none 0 0, .bool false, .int .i64 0, .int .i64 0, .slice none 0 0] rfl rfl 31 #[.int .u8 0, .int .i64 0, .int .i64 0, .int .i64 0, .int .i64 0, .int .i64 0, .bool false, .slice none 0 0, .int .i64 0, .bool false, .slice none 0 0, .int .i64 0, .bool false, .slice none 0 0, .int .i64 0, .bool false, .slice none 0 0, .int .i64 0, .bool false, .slice none 0 0, .bool false, .int .i64 0, .int .i64 0, .slice none 0 0] k2.row info_mail rfl (by simp [Value.oneCell']) ?_)
  (try simp only [Exit.inBlock, Exit.then])
  refine bodyPost_ret (results_cell_row rfl _ _ w.heap.size 31 #[.int .u8 1, .int .i64 1, .int .i64 2, .int .i64 3, .int .i64 4, .int .i64 0, .bool false, .slice (some ⟨g0, 0, none⟩) 1 1, .int .i64 0, .bool false, .slice (some ⟨g1, 0, none⟩) 1 1, .int .i64 0, .bool false, .slice none 0 0, .int .i64 0, .bool false, .slice none 0 0, .int .i64 0, .bool false, .slice none 0 0, .bool false, .int .i64 0, .int .i64 0, .slice none 0 0] (0, 0) _ rfl kf.row Try.underlying31 rfl info_mail) rfl ?_
  exact ⟨_, rfl, rfl, gfin.out, hf⟩
end Go.Proofs.Ytjmhefkmpfkpbaa
namespace Go.Proofs.Ytjmhefkmpfkpbaa
open Go.ChangeShapes Go.WideShapes Go.ChangeAt Go.RowKit
set_option linter.unusedSimpArgs false
set_option linter.unusedVariables false
theorem takeF {k : Nat} {l : List Nat} (hk : k < 256) (hl : ∀ b ∈ l, b < 256) (hm : l.length ≤ 4096) {v : Value} {w0 w : World} (ho : Owns w0 w v (framed k l)) : Calls Try.prog 23 #[v] w fun en w' => (∃ A n c, en = .returned (.tuple #[.int .u8 (k : Int), .slice A n c, .int .i64 0]) ∧ n = l.length ∧ n ≤ c ∧ Reads w' w'.heap.size 1 A n (bytes l)) ∧ Below w.heap.size w w' := by
  obtain ⟨A, c, rfl, hc, hR⟩ := ho.slice
  have hb : ∀ b ∈ framed k l, b < 256 := fun b hb => by
    unfold framed at hb
    rcases List.mem_append.1 hb with h | h
    · exact headed_lt hk hm hl b h
    · exact told_lt (crc_lt _) b h
  refine (take_any A (framed k l).length c (framed k l) rfl (by rw [framed_len]; omega) hc hb w hR).mono ?_
  rintro en w' ⟨⟨_, _, _, _, h⟩ | ⟨_, A2, c2, rfl, hc2, hR2⟩, hb2⟩
  · exact absurd (framed_ok hm) h
  · rw [framed_content] at hR2 hc2
    exact ⟨⟨A2, _, c2, by rw [framed_kind, framed_content], rfl, hc2, hR2⟩, hb2⟩
theorem strV {w0 w : World} {v : Value} {l : List Nat} (hl : ∀ b ∈ l, b < 256) (ho : Owns w0 w v l) : ∀ w', Below w.heap.size w w' → (convert 34 9 v).run Try.prog w' = .ok (.string (strOf l)) w' := by
  obtain ⟨A, c, rfl, _, hR⟩ := ho.slice
  exact fun w' hw => conv_str rfl hl (hR.below hw)
theorem framed_lt {k : Nat} {l : List Nat} (hk : k < 256) (hm : l.length ≤ 4096) (hl : ∀ b ∈ l, b < 256) : ∀ b ∈ framed k l, b < 256 := fun b hb => by
  unfold framed at hb
  rcases List.mem_append.1 hb with h | h
  · exact headed_lt hk hm hl b h
  · exact told_lt (crc_lt _) b h
def busyL : Ml := ⟨4, 0, 1, 0, 0, 2, ⟨zd, zd, zd, zd⟩, false, [], false, 0, 0, []⟩
theorem rises_nil : rises [] := fun i h => by simp at h
theorem push_ok : okL pushL := ⟨⟨by decide, by decide, ⟨by decide, by decide⟩, by decide, by decide, by decide, by decide, by decide, by decide⟩, by decide, by decide, by decide, ⟨rises_nil, by decide⟩, rfl⟩
theorem busy_ok : okL busyL := ⟨⟨by decide, by decide, ⟨by decide, by decide⟩, by decide, by decide, by decide, by decide, by decide, by decide⟩, by decide, by decide, by decide, ⟨rises_nil, by decide⟩, rfl⟩
theorem push_by : byP pushL = [1, 2, 0, 3, 0, 0, 4, 0, 0, 0, 1, 0, 0, 0, 6, 0, 0, 0, 1, 0, 0, 0, 1] := by decide
theorem busy_by : byP busyL = [0, 1, 0, 0, 0, 0, 0, 0, 0, 2] := by decide
theorem push_sm : smL pushL := ⟨⟨by decide, by decide, by decide, by decide⟩, by decide, by decide⟩
theorem busy_sm : smL busyL := ⟨⟨by decide, by decide, by decide, by decide⟩, by decide, by decide⟩
theorem push_lt : ltL pushL := ⟨⟨by decide, by decide, by decide, by decide⟩, by decide⟩
theorem busy_lt : ltL busyL := ⟨⟨by decide, by decide, by decide, by decide⟩, by decide⟩
def busyO : MO := ⟨busyL, none, 0, none, 0, none, 0, none, 0, none, 0, none, 0⟩
theorem busy_rd (w : World) (B : Nat) : rdL w B busyO := ⟨⟨rdD_zd _ _, rdD_zd _ _, rdD_zd _ _, rdD_zd _ _⟩, Tms.none_, Reads.none_⟩
set_option maxRecDepth 100000 in
set_option maxHeartbeats 16000000 in
theorem malive_any (w : World) : Calls Try.prog 8 #[] w fun en w' => en = .returned (.bool true) ∧ Below w.heap.size w w' := by
  go_enter Try.func8, Try.ntmps8
  go_wp2_with fail
  refine (push_any w).mono ?_
  rintro en w1 ⟨om, rfl, hx, hrd, hb1⟩
  have hw := write_any om (by rw [hx]; exact push_sm) (by rw [hx]; exact push_lt) (by rw [hx]; decide) w1 hrd
  rw [hx] at hw
  have gB1 := Lib.hid hb1
  clear hx hrd hb1
  obtain ⟨av, hav⟩ : ∃ a, aggL om = a := ⟨_, rfl⟩
  rw [hav] at hw ⊢
  clear hav
  go_wp2_with fail
  refine hw.mono ?_
  rintro en w2 ⟨hb2, ⟨hno, _⟩ | ⟨_, v2, rfl, ho2⟩⟩
  · exact absurd push_ok hno
  have ht := takeF (by decide) (byP_lt pushL) (by rw [push_by]; decide) ho2
  have gB2 := Lib.hid (gB1.out.trans (hb2.mono gB1.out.size))
  clear hw hb2 ho2 gB1
  go_wp2_with fail
  refine ht.mono ?_
  rintro en w3 ⟨⟨A3, n3, c3, rfl, hn3, hc3, hR3⟩, hb3⟩
  have gcv : Hid (∀ w', Below w3.heap.size w3 w' → (convert 34 9 (.slice A3 n3 c3)).run Try.prog w' = .ok (.string ⟨#[1, 2, 0, 3, 0, 0, 4, 0, 0, 0, 1, 0, 0, 0, 6, 0, 0, 0, 1, 0, 0, 0, 1]⟩) w') := Lib.hid (fun w' hw' => conv_str (l := [1, 2, 0, 3, 0, 0, 4, 0, 0, 0, 1, 0, 0, 0, 6, 0, 0, 0, 1, 0, 0, 0, 1]) (by rw [hn3, push_by]) (by decide) (by have := hR3.below hw'; rwa [push_by] at this))
  have gB3 := Lib.hid (gB2.out.trans (hb3.mono gB2.out.size))
  have gk : ((pushL.kd.toNat : Nat) : Int) = 1 := rfl
  rw [gk]
  clear ht hb3 hR3 hn3 hc3 gB2 gk
  have hw := write_any busyO busy_sm busy_lt (by decide) w3 (busy_rd _ _)
  go_wp2_with fail
  refine hw.mono ?_
  rintro en w4 ⟨hb4, ⟨hno, _⟩ | ⟨_, v4, rfl, ho4⟩⟩
  · exact absurd busy_ok hno
  have ht := takeF (by decide) (byP_lt busyL) (by rw [busy_by]; decide) ho4
  have gb4 := Lib.hid hb4
  clear hw hb4 ho4
  go_wp2_with fail
  refine ht.mono ?_
  rintro en w5 ⟨⟨A5, n5, c5, rfl, hn5, hc5, hR5⟩, hb5⟩
  have hb35 := gb4.out.trans (hb5.mono gb4.out.size)
  have cv3 := gcv.out w5 hb35
  have cv5 : (convert 34 9 (.slice A5 n5 c5)).run Try.prog w5 = .ok (.string ⟨#[0, 1, 0, 0, 0, 0, 0, 0, 0, 2]⟩) w5 := conv_str (l := [0, 1, 0, 0, 0, 0, 0, 0, 0, 2]) (by rw [hn5, busy_by]) (by decide) (by rwa [busy_by] at hR5)
  have gB5 := Lib.hid (gB3.out.trans (hb35.mono gB3.out.size))
  clear ht hb5 hR5 hn5 hc5 gb4 gcv gB3 hb35
  go_wp2
  go_ret
  exact ⟨rfl, gB5.out⟩
end Go.Proofs.Ytjmhefkmpfkpbaa
