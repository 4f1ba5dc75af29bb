/- Flight's Door: the reference's Same and May of any mail, as the mail's own laws | Flight's Door: flight.Of of any mail, the reference's Carries and Of -/
import Derived.Test.YtdmjdpaehnhdoaaDoorGH
import Derived.Test.YtdmjdpaehnhdoaaDoorGI
import Derived.Test.YtdmjdpaehnhdoaaDoorFB
import Derived.Test.YtdmjdpaehnhdoaaDoorLKM
namespace Go.Proofs.YtdmjdpaehnhdoaaDoor
open Go.ChangeShapes Go.WideShapes Go.ChangeAt Go.RowKit
set_option linter.unusedSimpArgs false
set_option linter.unusedVariables false
theorem rlsame_any (a b : MO) (hsa : smL a.x) (hsb : smL b.x) (w : World) (ra : rdL w w.heap.size a) (rb : rdL w w.heap.size b) (R : Bool) (hR : decide (a.x = b.x) = R) : Calls Tryd.prog 19 #[aggL a, aggL b] w fun en w' => en = .returned (.bool R) ∧ Below w.heap.size w w' :=
  rlsameA a b w (decide (a.x.give = b.x.give)) (decide (a.x.ds = b.x.ds)) (decide (a.x.ls = b.x.ls)) R (by rw [← hR]; exact ml_dec a.x b.x)
    (fun w' h => rmsame_any _ _ _ _ _ _ _ _ _ _ _ _ _ _ _ _ _ _ _ _ _ _ _ _ _ _ _ _ _ _ _ _ _ _ _ _ _ _ _ _ a.x.give b.x.give hsa.1 hsb.1 w' (ra.below h h.size).1 (rb.below h h.size).1 _ rfl)
    (fun w' h => (rdssame_any a.D b.D a.x.ds.length b.x.ds.length a.dc b.dc _ _ a.x.ds b.x.ds (by have := hsa.2.1; omega) w' (ra.below h h.size).2.1 (rb.below h h.size).2.1).mono fun en w'' hh => ⟨hh.1, by obtain ⟨m, e⟩ := hh.2; rw [e]; exact below_drewN (Below.refl _ _) m⟩)
    (fun w' h => (rtags_any a.L b.L a.x.ls.length b.x.ls.length a.lc b.lc _ _ a.x.ls b.x.ls rfl rfl hsa.2.2 hsb.2.2 w' (ra.below h h.size).2.2 (rb.below h h.size).2.2).mono fun en w'' hh => ⟨hh.1, by obtain ⟨m, e⟩ := hh.2; rw [e]; exact below_drewN (Below.refl _ _) m⟩)
theorem used_iff (m : Ml) (h : 1 ≤ m.kd ∧ m.kd ≤ 6) : m = usedL m ↔ ((m.kd ≠ 3 → m.kd ≠ 4 → m.ab = 0) ∧ (m.kd ≠ 1 → m.give.s = zd ∧ m.give.w = zd) ∧ (m.kd ≠ 2 → m.kd ≠ 3 → m.give.c = zd ∧ m.give.a = zd) ∧ (m.kd ≠ 5 → m.wa = false ∧ m.ds = []) ∧ (m.kd ≠ 6 → m.eh = false ∧ m.e1 = 0 ∧ m.e2 = 0 ∧ m.ls = [])) := by
  obtain ⟨kd, fr, tt, ep, nu, ab, ⟨gs, gw, gc, ga⟩, wa, ds, eh, e1, e2, ls⟩ := m
  have hc : kd = 1 ∨ kd = 2 ∨ kd = 3 ∨ kd = 4 ∨ kd = 5 ∨ kd = 6 := by simp only at h; omega
  rcases hc with rfl | rfl | rfl | rfl | rfl | rfl <;> constructor <;> intro hh <;> simp [usedL, Ml.mk.injEq, Ms.mk.injEq] at hh ⊢ <;> simp_all
theorem badN_iff (x : Int) : badN x = false ↔ 0 ≤ x ∧ x < 8 := by
  unfold badN
  simp only [Bool.or_eq_false_iff, decide_eq_false_iff_not]
  omega
theorem may_plain (m : Ml) (Ql : Bool) (hl : Ql = true ↔ (rises m.ls ∧ m.ls.length ≤ 8)) :
    ((!((((((((((((((((decide (m.kd < 1) || decide ((6 : Int) < m.kd)) || decide (m.fr < 0)) || decide ((8 : Int) ≤ m.fr)) || decide (m.tt < 0)) || decide ((8 : Int) ≤ m.tt)) || decide (m.ep < 0)) || decide ((65535 : Int) < m.ep)) || decide (m.nu < 0)) || decide ((1048575 : Int) < m.nu)) || decide (m.ab < 0)) || decide ((1048575 : Int) < m.ab)) || ((m.kd != 3) && (m.kd != 4) && (m.ab != 0))) || !(mayM m.give)) || (chkD m.ds != 0)) || !(mayE m.eh m.e1 m.e2)) || !Ql) && (!(((m.kd != 1) && ((!decide (m.give.s = zd)) || (!decide (m.give.w = zd)))) || (((m.kd != 2) && (m.kd != 3)) && ((!decide (m.give.c = zd)) || (!decide (m.give.a = zd))))) && (((m.kd == 5) || ((!m.wa) && ((m.ds.length:Int) == 0))) && ((m.kd == 6) || ((!m.eh) && ((m.ls.length:Int) == 0)))))) = true) ↔ okL m := by
  have e0 : ∀ {α : Type} (l : List α), ((l.length : Int) = 0 ↔ l = []) := fun l => by
    cases l
    · simp
    · simp; omega
  simp only [Bool.and_eq_true, Bool.not_eq_true', Bool.or_eq_false_iff, decide_eq_false_iff_not, Bool.and_eq_false_iff, bne_eq_false_iff_eq, Bool.not_eq_false', Bool.or_eq_true, beq_iff_eq, decide_eq_true_eq, e0]
  constructor
  · rintro ⟨⟨⟨⟨⟨⟨⟨⟨⟨⟨⟨⟨⟨⟨⟨⟨⟨k0, k1⟩, f0⟩, f1⟩, t0⟩, t1⟩, p0⟩, p1⟩, n0⟩, n1⟩, b0⟩, b1⟩, u0⟩, hm⟩, hd⟩, he⟩, hq⟩, ⟨u1, u2⟩, u3, u4⟩
    refine ⟨⟨by omega, by omega, ⟨(badN_iff _).2 (by omega), (badN_iff _).2 (by omega)⟩, by omega, by omega, by omega, by omega, by omega, by omega⟩, hm, hd, he, hl.1 hq, (used_iff m (by omega)).2 ⟨by omega, ?_, ?_, ?_, ?_⟩⟩
    · intro h
      exact u1.resolve_left h
    · intro h h2
      rcases u2 with (h3 | h3) | h3
      · exact absurd h3 h
      · exact absurd h3 h2
      · exact h3
    · intro h
      exact u3.resolve_left h
    · intro h
      obtain ⟨h3, h4⟩ := u4.resolve_left h
      rw [h3] at he
      unfold mayE at he
      simp at he
      exact ⟨h3, he.1, he.2, h4⟩
  · rintro ⟨⟨k0, k1, ⟨f0, t0⟩, p0, p1, n0, n1, b0, b1⟩, hm, hd, he, hq, hu⟩
    obtain ⟨v0, v1, v2, v3, v4⟩ := (used_iff m ⟨k0, k1⟩).1 hu
    have f1 := (badN_iff _).1 f0
    have t1 := (badN_iff _).1 t0
    refine ⟨⟨⟨⟨⟨⟨⟨⟨⟨⟨⟨⟨⟨⟨⟨⟨⟨by omega, by omega⟩, by omega⟩, by omega⟩, by omega⟩, by omega⟩, by omega⟩, by omega⟩, by omega⟩, by omega⟩, by omega⟩, by omega⟩, by omega⟩, hm⟩, hd⟩, he⟩, hl.2 hq⟩, ⟨?_, ?_⟩, ?_, ?_⟩
    · exact (Decidable.em (m.kd = 1)).imp id v1
    · by_cases h : m.kd = 2
      · exact .inl (.inl h)
      · by_cases h2 : m.kd = 3
        · exact .inl (.inr h2)
        · exact .inr (v2 h h2)
    · exact (Decidable.em (m.kd = 5)).imp id v3
    · exact (Decidable.em (m.kd = 6)).imp id (fun h => ⟨(v4 h).1, (v4 h).2.2.2⟩)
theorem rlmay_any (o : MO) (h : smL o.x) (w : World) (hr : rdL w w.heap.size o) : Calls Tryd.prog 37 #[aggL o] w fun en w' => ∃ R : Bool, en = .returned (.bool R) ∧ (R = true ↔ okL o.x) ∧ Below w.heap.size w w' := by
  obtain ⟨hm, hd, hl⟩ := h
  obtain ⟨r1, r2, r3⟩ := hr
  obtain ⟨Ql, hQ⟩ : ∃ Ql : Bool, Ql = true ↔ (rises o.x.ls ∧ o.x.ls.length ≤ 8) := by
    by_cases hq : rises o.x.ls ∧ o.x.ls.length ≤ 8
    · exact ⟨true, by simp [hq]⟩
    · exact ⟨false, by simpa using hq⟩
  refine (rmayA o w (mayM o.x.give) (mayE o.x.eh o.x.e1 o.x.e2) Ql (decide (o.x.give.s = zd)) (decide (o.x.give.w = zd)) (decide (o.x.give.c = zd)) (decide (o.x.give.a = zd)) _ (chkD o.x.ds) rfl
    (fun w' h => rzero_any _ _ _ _ _ o.x.give.s hm.1 w' _ (r1.below h h.size).1 rfl _ rfl) (fun w' h => rzero_any _ _ _ _ _ o.x.give.w hm.2.1 w' _ (r1.below h h.size).2.1 rfl _ rfl) (fun w' h => rzero_any _ _ _ _ _ o.x.give.c hm.2.2.1 w' _ (r1.below h h.size).2.2.1 rfl _ rfl) (fun w' h => rzero_any _ _ _ _ _ o.x.give.a hm.2.2.2 w' _ (r1.below h h.size).2.2.2 rfl _ rfl)
    (fun w' h => rmmay_any _ _ _ _ _ _ _ _ _ _ _ _ _ _ _ _ _ _ _ _ o.x.give _ rfl w' (r1.below h h.size))
    (fun w' _ => redge_any _ _ _ w' _ rfl)
    (fun w' h => (rleast_any o.L o.x.ls.length o.lc _ o.x.ls rfl hl w' ((r3.below h).more h.size)).mono fun en w'' hh => by
      obtain ⟨q, rfl, hq, m, rfl⟩ := hh
      obtain rfl : q = Ql := by rw [Bool.eq_iff_iff, hq, hQ]
      exact ⟨rfl, below_drewN (Below.refl _ _) m⟩)
    (fun w' h => rdcheck_any o.D o.x.ds.length o.dc o.x.ds hd w' ((r2.below h).more h.size) _ rfl)).mono ?_
  rintro en w' ⟨rfl, hb⟩
  exact ⟨_, rfl, may_plain o.x Ql hQ, hb⟩
end Go.Proofs.YtdmjdpaehnhdoaaDoor
namespace Go.Proofs.YtdmjdpaehnhdoaaDoor
open Go.ChangeShapes Go.WideShapes Go.ChangeAt Go.RowKit
set_option linter.unusedSimpArgs false
set_option linter.unusedVariables false
open Go.Shelf
set_option maxRecDepth 100000
abbrev mA (o : MO) : Array Value := #[.int .u8 o.x.kd, .int .i64 o.x.fr, .int .i64 o.x.tt, .int .i64 o.x.ep, .int .i64 o.x.nu, .int .i64 o.x.ab, .bool o.x.give.s.neg, .slice o.X0 o.x.give.s.ls.length o.c0, .int .i64 o.x.give.s.ex, .bool o.x.give.w.neg, .slice o.X1 o.x.give.w.ls.length o.c1, .int .i64 o.x.give.w.ex, .bool o.x.give.c.neg, .slice o.X2 o.x.give.c.ls.length o.c2, .int .i64 o.x.give.c.ex, .bool o.x.give.a.neg, .slice o.X3 o.x.give.a.ls.length o.c3, .int .i64 o.x.give.a.ex, .bool o.x.wa, .slice o.D o.x.ds.length o.dc, .bool o.x.eh, .int .i64 o.x.e1, .int .i64 o.x.e2, .slice o.L o.x.ls.length o.lc]
abbrev oA (r : MB) : Array Value := #[.bool r.m.s.neg, .slice r.X0 r.m.s.ls.length r.c0, .int .i64 r.m.s.ex, .bool r.m.w.neg, .slice r.X1 r.m.w.ls.length r.c1, .int .i64 r.m.w.ex, .bool r.m.c.neg, .slice r.X2 r.m.c.ls.length r.c2, .int .i64 r.m.c.ex, .bool r.m.a.neg, .slice r.X3 r.m.a.ls.length r.c3, .int .i64 r.m.a.ex]
abbrev zA : Array Value := #[.bool false, .slice none 0 0, .int .i64 0, .bool false, .slice none 0 0, .int .i64 0, .bool false, .slice none 0 0, .int .i64 0, .bool false, .slice none 0 0, .int .i64 0]
abbrev zB : MB := ⟨zM, none, 0, none, 0, none, 0, none, 0⟩
def mO (o : MO) : MB := ⟨o.x.give, o.X0, o.c0, o.X1, o.c1, o.X2, o.c2, o.X3, o.c3⟩
/-- What a mail carries. -/
def carL (m : Ml) (E : Int) : Ms := if E = 0 ∧ (m.kd = 1 ∨ m.kd = 3) then m.give else zM
def OfP (o : MO) (w : World) (en : Ending) (w' : World) : Prop := ∃ E : Int, ((okL o.x ∧ E = 0) ∨ (¬ okL o.x ∧ E = 100)) ∧ ∃ r : MB, r.m = carL o.x E ∧ en = .returned (.tuple #[.agg (oA r), .int .i64 E]) ∧ OwM w' w.heap.size r ∧ Below w.heap.size w w'
theorem ofP_no {o : MO} {w w' : World} {E : Int} (hE : (okL o.x ∧ E = 0) ∨ (¬ okL o.x ∧ E = 100)) (h : ¬ (E = 0 ∧ (o.x.kd = 1 ∨ o.x.kd = 3))) (hb : Below w.heap.size w w') : OfP o w (.returned (.tuple #[.agg zA, .int .i64 E])) w' := ⟨E, hE, zB, (if_neg h).symm, rfl, owM_zero _ _, hb⟩
theorem OwM.setRow2 {w : World} {B g : Nat} {o : MB} (h : OwM w B o) (hg : g < B) (ds : Array Value) : OwM (w.setRow g ds) B o := ⟨h.1.setRow hg ds (Nat.le_refl _), h.2.1.setRow hg ds (Nat.le_refl _), h.2.2.1.setRow hg ds (Nat.le_refl _), h.2.2.2.setRow hg ds (Nat.le_refl _)⟩
theorem mtwL (o : MO) (hsm : smL o.x) (w : World) (hr : rdL w w.heap.size o) : Calls Tryd.prog 36 #[.agg #[.bool o.x.give.s.neg, .slice o.X0 o.x.give.s.ls.length o.c0, .int .i64 o.x.give.s.ex, .bool o.x.give.w.neg, .slice o.X1 o.x.give.w.ls.length o.c1, .int .i64 o.x.give.w.ex, .bool o.x.give.c.neg, .slice o.X2 o.x.give.c.ls.length o.c2, .int .i64 o.x.give.c.ex, .bool o.x.give.a.neg, .slice o.X3 o.x.give.a.ls.length o.c3, .int .i64 o.x.give.a.ex]] w fun en w' => ∃ r : MB, r.m = o.x.give ∧ en = .returned (.agg (oA r)) ∧ OwM w' w.heap.size r ∧ Below w.heap.size w w' := by
  refine (mtwin_any o.x.give.s.neg o.X0 o.x.give.s.ls.length o.c0 o.x.give.s.ex o.x.give.w.neg o.X1 o.x.give.w.ls.length o.c1 o.x.give.w.ex o.x.give.c.neg o.X2 o.x.give.c.ls.length o.c2 o.x.give.c.ex o.x.give.a.neg o.X3 o.x.give.a.ls.length o.c3 o.x.give.a.ex o.x.give hsm.1 w hr.1).mono ?_
  rintro en w' h
  obtain ⟨Y0, k0, Y1, k1, Y2, k2, Y3, k3, rfl, ⟨l0, o0⟩, ⟨l1, o1⟩, ⟨l2, o2⟩, ⟨l3, o3⟩, hb⟩ := h
  exact ⟨⟨o.x.give, Y0, k0, Y1, k1, Y2, k2, Y3, k3⟩, rfl, rfl, ⟨⟨l0, o0⟩, ⟨l1, o1⟩, ⟨l2, o2⟩, ⟨l3, o3⟩⟩, hb⟩
theorem rmtwL (o : MO) (hsm : smL o.x) (w : World) (hr : rdL w w.heap.size o) : Calls Tryd.prog 31 #[.agg #[.bool o.x.give.s.neg, .slice o.X0 o.x.give.s.ls.length o.c0, .int .i64 o.x.give.s.ex, .bool o.x.give.w.neg, .slice o.X1 o.x.give.w.ls.length o.c1, .int .i64 o.x.give.w.ex, .bool o.x.give.c.neg, .slice o.X2 o.x.give.c.ls.length o.c2, .int .i64 o.x.give.c.ex, .bool o.x.give.a.neg, .slice o.X3 o.x.give.a.ls.length o.c3, .int .i64 o.x.give.a.ex]] w fun en w' => ∃ r : MB, r.m = o.x.give ∧ en = .returned (.agg (oA r)) ∧ OwM w' w.heap.size r ∧ Below w.heap.size w w' := by
  refine (rmtwin_any o.x.give.s.neg o.X0 o.x.give.s.ls.length o.c0 o.x.give.s.ex o.x.give.w.neg o.X1 o.x.give.w.ls.length o.c1 o.x.give.w.ex o.x.give.c.neg o.X2 o.x.give.c.ls.length o.c2 o.x.give.c.ex o.x.give.a.neg o.X3 o.x.give.a.ls.length o.c3 o.x.give.a.ex o.x.give hsm.1 w hr.1).mono ?_
  rintro en w' h
  obtain ⟨Y0, k0, Y1, k1, Y2, k2, Y3, k3, rfl, ⟨l0, o0⟩, ⟨l1, o1⟩, ⟨l2, o2⟩, ⟨l3, o3⟩, hb⟩ := h
  exact ⟨⟨o.x.give, Y0, k0, Y1, k1, Y2, k2, Y3, k3⟩, rfl, rfl, ⟨⟨l0, o0⟩, ⟨l1, o1⟩, ⟨l2, o2⟩, ⟨l3, o3⟩⟩, hb⟩
set_option maxHeartbeats 16000000 in
theorem fofN (o : MO) (w : World) (hc : ∀ w', Below w.heap.size w w' → Calls Tryd.prog 35 #[.agg (mA o)] w' fun en w'' => en = .returned (.int .i64 100) ∧ Below w'.heap.size w' w'') (h : ¬ okL o.x) : Calls Tryd.prog 12 #[aggL o] w (OfP o w) := by
  obtain ⟨V, hV⟩ : ∃ V, V = (w.alloc (.cells (mA o) 32)).alloc (.cells zA 27) := ⟨_, rfl⟩
  have hB : Below w.heap.size w V := by rw [hV]; exact ((Below.refl _ _).alloc (Nat.le_refl _) _).alloc (by simp) _
  have ka : Blk V w.heap.size 32 (mA o) := by rw [hV]; exact (Blk.new w _ _).alloc _
  have kr : Blk V (w.heap.size + 1) 27 zA := by rw [hV]; simpa using Blk.new (w.alloc (.cells (mA o) 32)) 27 zA
  replace hc := hc V hB
  have gka := Lib.hid ka
  have gkr := Lib.hid kr
  have gB := Lib.hid hB
  clear ka kr hB
  have k1 := gka.out
  change Calls Tryd.prog 12 #[.agg (mA o)] w _
  go_enter Tryd.func12, Tryd.ntmps12
  go_upto_region 1 with (fail)
  rw [← hV]
  clear hV
  go_wp2_with (refine wpList_load_row rfl 32 _ rfl w.heap.size rfl 32 (mA o) (0, 0) _ ?_ Tryd.underlying32 rfl (by kernel_rfl) ?_; exact k1)
  refine hc.mono ?_
  rintro en w1 ⟨rfl, hb1⟩
  clear hc k1
  have ka1 := gka.out.below hb1 gka.out.lt
  have kr1 := gkr.out.below hb1 gkr.out.lt
  have gB1 := Lib.hid (gB.out.trans (hb1.mono gB.out.size))
  have kz := kr1.setRow zA
  have hBz := below_setRow (g := w.heap.size + 1) gB1.out (by omega) zA
  go_wp2_with (first | (refine wpList_store_row rfl 27 _ _ rfl (w.heap.size + 1) zA rfl rfl 27 zA ?_ info_mass rfl (by simp [Value.oneCell']) ?_; exact kr1) | (refine wpList_load_row rfl 27 _ rfl (w.heap.size + 1) rfl 27 zA (0, 0) _ ?_ Tryd.underlying27 rfl (by kernel_rfl) ?_; exact kr1))
  refine bodyPost_ret (ret_mass rfl _ _ (w.heap.size + 1) zA (.int .i64 100) rfl kz info_mass rfl) rfl ?_
  exact ofP_no (.inr ⟨h, rfl⟩) (fun e => by cases e.1) hBz
set_option maxHeartbeats 16000000 in
theorem fofZ (o : MO) (w : World) (hc : ∀ w', Below w.heap.size w w' → Calls Tryd.prog 35 #[.agg (mA o)] w' fun en w'' => en = .returned (.int .i64 0) ∧ Below w'.heap.size w' w'') (h : okL o.x) (h1 : (o.x.kd == 1) = false) (h3 : (o.x.kd == 3) = false) : Calls Tryd.prog 12 #[aggL o] w (OfP o w) := by
  obtain ⟨V, hV⟩ : ∃ V, V = (w.alloc (.cells (mA o) 32)).alloc (.cells zA 27) := ⟨_, rfl⟩
  have hB : Below w.heap.size w V := by rw [hV]; exact ((Below.refl _ _).alloc (Nat.le_refl _) _).alloc (by simp) _
  have ka : Blk V w.heap.size 32 (mA o) := by rw [hV]; exact (Blk.new w _ _).alloc _
  have kr : Blk V (w.heap.size + 1) 27 zA := by rw [hV]; simpa using Blk.new (w.alloc (.cells (mA o) 32)) 27 zA
  replace hc := hc V hB
  have gka := Lib.hid ka
  have gkr := Lib.hid kr
  have gB := Lib.hid hB
  clear ka kr hB
  have k1 := gka.out
  change Calls Tryd.prog 12 #[.agg (mA o)] w _
  go_enter Tryd.func12, Tryd.ntmps12
  go_upto_region 1 with (fail)
  rw [← hV]
  clear hV
  go_wp2_with (refine wpList_load_row rfl 32 _ rfl w.heap.size rfl 32 (mA o) (0, 0) _ ?_ Tryd.underlying32 rfl (by kernel_rfl) ?_; exact k1)
  refine hc.mono ?_
  rintro en w1 ⟨rfl, hb1⟩
  clear hc k1
  have ka1 := gka.out.below hb1 gka.out.lt
  have kr1 := gkr.out.below hb1 gkr.out.lt
  have gB1 := Lib.hid (gB.out.trans (hb1.mono gB.out.size))
  have gh := Lib.hid h
  clear h
  have a0 : w1.cell? ⟨w.heap.size, 0, none⟩ = some (.int .u8 o.x.kd) := by rw [ka1.cell]; rfl
  have kz := kr1.setRow zA
  have hBz := below_setRow (g := w.heap.size + 1) gB1.out (by omega) zA
  go_wp2_with (first | (refine wpList_store_row rfl 27 _ _ rfl (w.heap.size + 1) zA rfl rfl 27 zA ?_ info_mass rfl (by simp [Value.oneCell']) ?_; exact kr1) | (refine wpList_load_row rfl 27 _ rfl (w.heap.size + 1) rfl 27 zA (0, 0) _ ?_ Tryd.underlying27 rfl (by kernel_rfl) ?_; exact kr1))
  refine bodyPost_ret (ret_mass rfl _ _ (w.heap.size + 1) zA (.int .i64 0) rfl kz info_mass rfl) rfl ?_
  exact ofP_no (.inl ⟨gh.out, rfl⟩) (fun e => by rcases e.2 with e | e <;> rw [e] at h1 h3 <;> simp at h1 h3) hBz
set_option maxHeartbeats 16000000 in
theorem fof1 (o : MO) (w : World) (hc : ∀ w', Below w.heap.size w w' → Calls Tryd.prog 35 #[.agg (mA o)] w' fun en w'' => en = .returned (.int .i64 0) ∧ Below w'.heap.size w' w'') (h : okL o.x) (hsm : smL o.x) (hrd : rdL w w.heap.size o) (h1 : (o.x.kd == 1) = true) : Calls Tryd.prog 12 #[aggL o] w (OfP o w) := by
  obtain ⟨V, hV⟩ : ∃ V, V = (w.alloc (.cells (mA o) 32)).alloc (.cells zA 27) := ⟨_, rfl⟩
  have hB : Below w.heap.size w V := by rw [hV]; exact ((Below.refl _ _).alloc (Nat.le_refl _) _).alloc (by simp) _
  have ka : Blk V w.heap.size 32 (mA o) := by rw [hV]; exact (Blk.new w _ _).alloc _
  have kr : Blk V (w.heap.size + 1) 27 zA := by rw [hV]; simpa using Blk.new (w.alloc (.cells (mA o) 32)) 27 zA
  replace hc := hc V hB
  have gka := Lib.hid ka
  have gkr := Lib.hid kr
  have gB := Lib.hid hB
  clear ka kr hB
  have k1 := gka.out
  change Calls Tryd.prog 12 #[.agg (mA o)] w _
  go_enter Tryd.func12, Tryd.ntmps12
  go_upto_region 1 with (fail)
  rw [← hV]
  clear hV
  go_wp2_with (refine wpList_load_row rfl 32 _ rfl w.heap.size rfl 32 (mA o) (0, 0) _ ?_ Tryd.underlying32 rfl (by kernel_rfl) ?_; exact k1)
  refine hc.mono ?_
  rintro en w1 ⟨rfl, hb1⟩
  clear hc k1
  have ka1 := gka.out.below hb1 gka.out.lt
  have kr1 := gkr.out.below hb1 gkr.out.lt
  have gB1 := Lib.hid (gB.out.trans (hb1.mono gB.out.size))
  have ht := mtwL o hsm w1 (hrd.below gB1.out gB1.out.size)
  have gh := Lib.hid h
  clear h hsm hrd
  have a0 : w1.cell? ⟨w.heap.size, 0, none⟩ = some (.int .u8 o.x.kd) := by rw [ka1.cell]; rfl
  have ra1 := ka1.range 6 [.bool o.x.give.s.neg, .slice o.X0 o.x.give.s.ls.length o.c0, .int .i64 o.x.give.s.ex, .bool o.x.give.w.neg, .slice o.X1 o.x.give.w.ls.length o.c1, .int .i64 o.x.give.w.ex, .bool o.x.give.c.neg, .slice o.X2 o.x.give.c.ls.length o.c2, .int .i64 o.x.give.c.ex, .bool o.x.give.a.neg, .slice o.X3 o.x.give.a.ls.length o.c3, .int .i64 o.x.give.a.ex] rfl
  go_wp2_with (refine wpList_load_mid rfl 27 _ rfl w.heap.size 6 rfl [.bool o.x.give.s.neg, .slice o.X0 o.x.give.s.ls.length o.c0, .int .i64 o.x.give.s.ex, .bool o.x.give.w.neg, .slice o.X1 o.x.give.w.ls.length o.c1, .int .i64 o.x.give.w.ex, .bool o.x.give.c.neg, .slice o.X2 o.x.give.c.ls.length o.c2, .int .i64 o.x.give.c.ex, .bool o.x.give.a.neg, .slice o.X3 o.x.give.a.ls.length o.c3, .int .i64 o.x.give.a.ex] _ ra1 Tryd.underlying27 rfl (by kernel_rfl) ?_)
  refine ht.mono ?_
  rintro en w2 ⟨r, hr, rfl, us, hb2⟩
  have s1 := gB1.out.size
  have kr2 := kr1.below hb2 kr1.lt
  have hB2 := gB1.out.trans (hb2.mono gB1.out.size)
  have kz := (kr2.setRow (oA r)).setRow (oA r)
  have ky := kr2.setRow (oA r)
  have hBz := below_setRow (g := w.heap.size + 1) (below_setRow (g := w.heap.size + 1) hB2 (by omega) (oA r)) (by omega) (oA r)
  have gu := Lib.hid ((us.setRow2 (g := w.heap.size + 1) kr1.lt (oA r)).setRow2 (g := w.heap.size + 1) kr1.lt (oA r))
  have gho := Lib.hid hr
  clear ht ra1 us hr
  go_wp2_with (first | (refine wpList_store_row rfl 27 _ _ rfl (w.heap.size + 1) (oA r) rfl rfl 27 zA ?_ info_mass rfl (by simp [Value.oneCell']) ?_; exact kr2) | (refine wpList_load_row rfl 27 _ rfl (w.heap.size + 1) rfl 27 (oA r) (0, 0) _ ?_ Tryd.underlying27 rfl (by kernel_rfl) ?_; exact ky) | (refine wpList_store_row rfl 27 _ _ rfl (w.heap.size + 1) (oA r) rfl rfl 27 (oA r) ?_ info_mass rfl (by simp [Value.oneCell']) ?_; exact ky))
  refine bodyPost_ret (ret_mass rfl _ _ (w.heap.size + 1) (oA r) (.int .i64 0) rfl kz info_mass rfl) rfl ?_
  exact ⟨0, .inl ⟨gh.out, rfl⟩, r, by rw [gho.out]; exact (if_pos ⟨rfl, .inl (by simpa using h1)⟩).symm, rfl, gu.out.base_le (by omega), hBz⟩
set_option maxHeartbeats 16000000 in
theorem fof3 (o : MO) (w : World) (hc : ∀ w', Below w.heap.size w w' → Calls Tryd.prog 35 #[.agg (mA o)] w' fun en w'' => en = .returned (.int .i64 0) ∧ Below w'.heap.size w' w'') (h : okL o.x) (hsm : smL o.x) (hrd : rdL w w.heap.size o) (h1 : (o.x.kd == 1) = false) (h3 : (o.x.kd == 3) = true) : Calls Tryd.prog 12 #[aggL o] w (OfP o w) := by
  obtain ⟨V, hV⟩ : ∃ V, V = (w.alloc (.cells (mA o) 32)).alloc (.cells zA 27) := ⟨_, rfl⟩
  have hB : Below w.heap.size w V := by rw [hV]; exact ((Below.refl _ _).alloc (Nat.le_refl _) _).alloc (by simp) _
  have ka : Blk V w.heap.size 32 (mA o) := by rw [hV]; exact (Blk.new w _ _).alloc _
  have kr : Blk V (w.heap.size + 1) 27 zA := by rw [hV]; simpa using Blk.new (w.alloc (.cells (mA o) 32)) 27 zA
  replace hc := hc V hB
  have gka := Lib.hid ka
  have gkr := Lib.hid kr
  have gB := Lib.hid hB
  clear ka kr hB
  have k1 := gka.out
  change Calls Tryd.prog 12 #[.agg (mA o)] w _
  go_enter Tryd.func12, Tryd.ntmps12
  go_upto_region 1 with (fail)
  rw [← hV]
  clear hV
  go_wp2_with (refine wpList_load_row rfl 32 _ rfl w.heap.size rfl 32 (mA o) (0, 0) _ ?_ Tryd.underlying32 rfl (by kernel_rfl) ?_; exact k1)
  refine hc.mono ?_
  rintro en w1 ⟨rfl, hb1⟩
  clear hc k1
  have ka1 := gka.out.below hb1 gka.out.lt
  have kr1 := gkr.out.below hb1 gkr.out.lt
  have gB1 := Lib.hid (gB.out.trans (hb1.mono gB.out.size))
  have ht := mtwL o hsm w1 (hrd.below gB1.out gB1.out.size)
  have gh := Lib.hid h
  clear h hsm hrd
  have a0 : w1.cell? ⟨w.heap.size, 0, none⟩ = some (.int .u8 o.x.kd) := by rw [ka1.cell]; rfl
  have ra1 := ka1.range 6 [.bool o.x.give.s.neg, .slice o.X0 o.x.give.s.ls.length o.c0, .int .i64 o.x.give.s.ex, .bool o.x.give.w.neg, .slice o.X1 o.x.give.w.ls.length o.c1, .int .i64 o.x.give.w.ex, .bool o.x.give.c.neg, .slice o.X2 o.x.give.c.ls.length o.c2, .int .i64 o.x.give.c.ex, .bool o.x.give.a.neg, .slice o.X3 o.x.give.a.ls.length o.c3, .int .i64 o.x.give.a.ex] rfl
  go_wp2_with (refine wpList_load_mid rfl 27 _ rfl w.heap.size 6 rfl [.bool o.x.give.s.neg, .slice o.X0 o.x.give.s.ls.length o.c0, .int .i64 o.x.give.s.ex, .bool o.x.give.w.neg, .slice o.X1 o.x.give.w.ls.length o.c1, .int .i64 o.x.give.w.ex, .bool o.x.give.c.neg, .slice o.X2 o.x.give.c.ls.length o.c2, .int .i64 o.x.give.c.ex, .bool o.x.give.a.neg, .slice o.X3 o.x.give.a.ls.length o.c3, .int .i64 o.x.give.a.ex] _ ra1 Tryd.underlying27 rfl (by kernel_rfl) ?_)
  refine ht.mono ?_
  rintro en w2 ⟨r, hr, rfl, us, hb2⟩
  have s1 := gB1.out.size
  have kr2 := kr1.below hb2 kr1.lt
  have hB2 := gB1.out.trans (hb2.mono gB1.out.size)
  have kz := (kr2.setRow (oA r)).setRow (oA r)
  have ky := kr2.setRow (oA r)
  have hBz := below_setRow (g := w.heap.size + 1) (below_setRow (g := w.heap.size + 1) hB2 (by omega) (oA r)) (by omega) (oA r)
  have gu := Lib.hid ((us.setRow2 (g := w.heap.size + 1) kr1.lt (oA r)).setRow2 (g := w.heap.size + 1) kr1.lt (oA r))
  have gho := Lib.hid hr
  clear ht ra1 us hr
  go_wp2_with (first | (refine wpList_store_row rfl 27 _ _ rfl (w.heap.size + 1) (oA r) rfl rfl 27 zA ?_ info_mass rfl (by simp [Value.oneCell']) ?_; exact kr2) | (refine wpList_load_row rfl 27 _ rfl (w.heap.size + 1) rfl 27 (oA r) (0, 0) _ ?_ Tryd.underlying27 rfl (by kernel_rfl) ?_; exact ky) | (refine wpList_store_row rfl 27 _ _ rfl (w.heap.size + 1) (oA r) rfl rfl 27 (oA r) ?_ info_mass rfl (by simp [Value.oneCell']) ?_; exact ky))
  refine bodyPost_ret (ret_mass rfl _ _ (w.heap.size + 1) (oA r) (.int .i64 0) rfl kz info_mass rfl) rfl ?_
  exact ⟨0, .inl ⟨gh.out, rfl⟩, r, by rw [gho.out]; exact (if_pos ⟨rfl, .inr (by simpa using h3)⟩).symm, rfl, gu.out.base_le (by omega), hBz⟩
theorem fof_any (o : MO) (hsm : smL o.x) (w : World) (hr : rdL w w.heap.size o) : Calls Tryd.prog 12 #[aggL o] w (OfP o w) := by
  have hc := fun w' (h : Below w.heap.size w w') => check_any o hsm w' (hr.below h h.size)
  by_cases h : okL o.x
  · have hc' := fun w' h' => (hc w' h').mono (fun en w'' hh => (by
      obtain ⟨E, rfl, he, hb⟩ := hh
      obtain rfl : E = 0 := by rcases he with he | he; exact he.2; exact absurd h he.1
      exact ⟨rfl, hb⟩ : en = .returned (.int .i64 0) ∧ Below w'.heap.size w' w''))
    by_cases h1 : (o.x.kd == 1) = true
    · exact fof1 o w hc' h hsm hr h1
    · replace h1 := Bool.eq_false_iff.2 h1
      by_cases h3 : (o.x.kd == 3) = true
      · exact fof3 o w hc' h hsm hr h1 h3
      · exact fofZ o w hc' h h1 (Bool.eq_false_iff.2 h3)
  · refine fofN o w (fun w' h' => (hc w' h').mono (fun en w'' hh => (by
      obtain ⟨E, rfl, he, hb⟩ := hh
      obtain rfl : E = 100 := by rcases he with he | he; exact absurd he.1 h; exact he.2
      exact ⟨rfl, hb⟩ : en = .returned (.int .i64 100) ∧ Below w'.heap.size w' w''))) h
def CarP (o : MO) (w : World) (en : Ending) (w' : World) : Prop := ∃ r : MB, r.m = carL o.x 0 ∧ en = .returned (.agg (oA r)) ∧ OwM w' w.heap.size r ∧ Below w.heap.size w w'
set_option maxHeartbeats 16000000 in
theorem rcarZ (o : MO) (w : World) (h1 : (o.x.kd == 1) = false) (h3 : (o.x.kd == 3) = false) : Calls Tryd.prog 38 #[aggL o] w (CarP o w) := by
  obtain ⟨V, hV⟩ : ∃ V, V = (w.alloc (.cells (mA o) 32)).alloc (.cells zA 27) := ⟨_, rfl⟩
  have hB : Below w.heap.size w V := by rw [hV]; exact ((Below.refl _ _).alloc (Nat.le_refl _) _).alloc (by simp) _
  have ka : Blk V w.heap.size 32 (mA o) := by rw [hV]; exact (Blk.new w _ _).alloc _
  have kr : Blk V (w.heap.size + 1) 27 zA := by rw [hV]; simpa using Blk.new (w.alloc (.cells (mA o) 32)) 27 zA
  have gka := Lib.hid ka
  have gkr := Lib.hid kr
  have gB := Lib.hid hB
  clear ka kr hB
  change Calls Tryd.prog 38 #[.agg (mA o)] w _
  go_enter Tryd.func38, Tryd.ntmps38
  go_upto_region 1 with (fail)
  rw [← hV]
  clear hV
  have gB1 := gB
  have ka1 := gka.out
  have kr1 := gkr.out
  have a0 : V.cell? ⟨w.heap.size, 0, none⟩ = some (.int .u8 o.x.kd) := by rw [ka1.cell]; rfl
  have kz := kr1.setRow zA
  have hBz := below_setRow (g := w.heap.size + 1) gB1.out (by omega) zA
  go_wp2_with (refine wpList_store_row rfl 27 _ _ rfl (w.heap.size + 1) zA rfl rfl 27 zA ?_ info_mass rfl (by simp [Value.oneCell']) ?_; exact kr1)
  refine bodyPost_ret (results_cell_row rfl _ _ (w.heap.size + 1) 27 zA (0, 0) _ rfl kz.row Tryd.underlying27 rfl (by kernel_rfl)) rfl ?_
  exact ⟨zB, (if_neg (fun e => by rcases e.2 with e | e <;> rw [e] at h1 h3 <;> simp at h1 h3)).symm, rfl, owM_zero _ _, hBz⟩
set_option maxHeartbeats 16000000 in
theorem rcar1 (o : MO) (w : World) (hsm : smL o.x) (hrd : rdL w w.heap.size o) (h1 : (o.x.kd == 1) = true) : Calls Tryd.prog 38 #[aggL o] w (CarP o w) := by
  obtain ⟨V, hV⟩ : ∃ V, V = (w.alloc (.cells (mA o) 32)).alloc (.cells zA 27) := ⟨_, rfl⟩
  have hB : Below w.heap.size w V := by rw [hV]; exact ((Below.refl _ _).alloc (Nat.le_refl _) _).alloc (by simp) _
  have ka : Blk V w.heap.size 32 (mA o) := by rw [hV]; exact (Blk.new w _ _).alloc _
  have kr : Blk V (w.heap.size + 1) 27 zA := by rw [hV]; simpa using Blk.new (w.alloc (.cells (mA o) 32)) 27 zA
  have gka := Lib.hid ka
  have gkr := Lib.hid kr
  have gB := Lib.hid hB
  clear ka kr hB
  change Calls Tryd.prog 38 #[.agg (mA o)] w _
  go_enter Tryd.func38, Tryd.ntmps38
  go_upto_region 1 with (fail)
  rw [← hV]
  clear hV
  have gB1 := gB
  have ka1 := gka.out
  have kr1 := gkr.out
  have a0 : V.cell? ⟨w.heap.size, 0, none⟩ = some (.int .u8 o.x.kd) := by rw [ka1.cell]; rfl
  have ht := rmtwL o hsm V (hrd.below gB1.out gB1.out.size)
  clear hsm hrd
  have ra1 := ka1.range 6 [.bool o.x.give.s.neg, .slice o.X0 o.x.give.s.ls.length o.c0, .int .i64 o.x.give.s.ex, .bool o.x.give.w.neg, .slice o.X1 o.x.give.w.ls.length o.c1, .int .i64 o.x.give.w.ex, .bool o.x.give.c.neg, .slice o.X2 o.x.give.c.ls.length o.c2, .int .i64 o.x.give.c.ex, .bool o.x.give.a.neg, .slice o.X3 o.x.give.a.ls.length o.c3, .int .i64 o.x.give.a.ex] rfl
  go_wp2_with (refine wpList_load_mid rfl 27 _ rfl w.heap.size 6 rfl [.bool o.x.give.s.neg, .slice o.X0 o.x.give.s.ls.length o.c0, .int .i64 o.x.give.s.ex, .bool o.x.give.w.neg, .slice o.X1 o.x.give.w.ls.length o.c1, .int .i64 o.x.give.w.ex, .bool o.x.give.c.neg, .slice o.X2 o.x.give.c.ls.length o.c2, .int .i64 o.x.give.c.ex, .bool o.x.give.a.neg, .slice o.X3 o.x.give.a.ls.length o.c3, .int .i64 o.x.give.a.ex] _ ra1 Tryd.underlying27 rfl (by kernel_rfl) ?_)
  refine ht.mono ?_
  rintro en w2 ⟨r, hr, rfl, us, hb2⟩
  have s1 := gB1.out.size
  have kr2 := kr1.below hb2 kr1.lt
  have hB2 := gB1.out.trans (hb2.mono gB1.out.size)
  have kz := kr2.setRow (oA r)
  have hBz := below_setRow (g := w.heap.size + 1) hB2 (by omega) (oA r)
  have gu := Lib.hid (us.setRow2 (g := w.heap.size + 1) kr1.lt (oA r))
  have gho := Lib.hid hr
  clear ht ra1 us hr
  go_wp2_with (refine wpList_store_row rfl 27 _ _ rfl (w.heap.size + 1) (oA r) rfl rfl 27 zA ?_ info_mass rfl (by simp [Value.oneCell']) ?_; exact kr2)
  refine bodyPost_ret (results_cell_row rfl _ _ (w.heap.size + 1) 27 (oA r) (0, 0) _ rfl kz.row Tryd.underlying27 rfl (by kernel_rfl)) rfl ?_
  exact ⟨r, by rw [gho.out]; exact (if_pos ⟨rfl, .inl (by simpa using h1)⟩).symm, rfl, gu.out.base_le (by omega), hBz⟩
set_option maxHeartbeats 16000000 in
theorem rcar3 (o : MO) (w : World) (hsm : smL o.x) (hrd : rdL w w.heap.size o) (h1 : (o.x.kd == 1) = false) (h3 : (o.x.kd == 3) = true) : Calls Tryd.prog 38 #[aggL o] w (CarP o w) := by
  obtain ⟨V, hV⟩ : ∃ V, V = (w.alloc (.cells (mA o) 32)).alloc (.cells zA 27) := ⟨_, rfl⟩
  have hB : Below w.heap.size w V := by rw [hV]; exact ((Below.refl _ _).alloc (Nat.le_refl _) _).alloc (by simp) _
  have ka : Blk V w.heap.size 32 (mA o) := by rw [hV]; exact (Blk.new w _ _).alloc _
  have kr : Blk V (w.heap.size + 1) 27 zA := by rw [hV]; simpa using Blk.new (w.alloc (.cells (mA o) 32)) 27 zA
  have gka := Lib.hid ka
  have gkr := Lib.hid kr
  have gB := Lib.hid hB
  clear ka kr hB
  change Calls Tryd.prog 38 #[.agg (mA o)] w _
  go_enter Tryd.func38, Tryd.ntmps38
  go_upto_region 1 with (fail)
  rw [← hV]
  clear hV
  have gB1 := gB
  have ka1 := gka.out
  have kr1 := gkr.out
  have a0 : V.cell? ⟨w.heap.size, 0, none⟩ = some (.int .u8 o.x.kd) := by rw [ka1.cell]; rfl
  have ht := rmtwL o hsm V (hrd.below gB1.out gB1.out.size)
  clear hsm hrd
  have ra1 := ka1.range 6 [.bool o.x.give.s.neg, .slice o.X0 o.x.give.s.ls.length o.c0, .int .i64 o.x.give.s.ex, .bool o.x.give.w.neg, .slice o.X1 o.x.give.w.ls.length o.c1, .int .i64 o.x.give.w.ex, .bool o.x.give.c.neg, .slice o.X2 o.x.give.c.ls.length o.c2, .int .i64 o.x.give.c.ex, .bool o.x.give.a.neg, .slice o.X3 o.x.give.a.ls.length o.c3, .int .i64 o.x.give.a.ex] rfl
  go_wp2_with (refine wpList_load_mid rfl 27 _ rfl w.heap.size 6 rfl [.bool o.x.give.s.neg, .slice o.X0 o.x.give.s.ls.length o.c0, .int .i64 o.x.give.s.ex, .bool o.x.give.w.neg, .slice o.X1 o.x.give.w.ls.length o.c1, .int .i64 o.x.give.w.ex, .bool o.x.give.c.neg, .slice o.X2 o.x.give.c.ls.length o.c2, .int .i64 o.x.give.c.ex, .bool o.x.give.a.neg, .slice o.X3 o.x.give.a.ls.length o.c3, .int .i64 o.x.give.a.ex] _ ra1 Tryd.underlying27 rfl (by kernel_rfl) ?_)
  refine ht.mono ?_
  rintro en w2 ⟨r, hr, rfl, us, hb2⟩
  have s1 := gB1.out.size
  have kr2 := kr1.below hb2 kr1.lt
  have hB2 := gB1.out.trans (hb2.mono gB1.out.size)
  have kz := kr2.setRow (oA r)
  have hBz := below_setRow (g := w.heap.size + 1) hB2 (by omega) (oA r)
  have gu := Lib.hid (us.setRow2 (g := w.heap.size + 1) kr1.lt (oA r))
  have gho := Lib.hid hr
  clear ht ra1 us hr
  go_wp2_with (refine wpList_store_row rfl 27 _ _ rfl (w.heap.size + 1) (oA r) rfl rfl 27 zA ?_ info_mass rfl (by simp [Value.oneCell']) ?_; exact kr2)
  refine bodyPost_ret (results_cell_row rfl _ _ (w.heap.size + 1) 27 (oA r) (0, 0) _ rfl kz.row Tryd.underlying27 rfl (by kernel_rfl)) rfl ?_
  exact ⟨r, by rw [gho.out]; exact (if_pos ⟨rfl, .inr (by simpa using h3)⟩).symm, rfl, gu.out.base_le (by omega), hBz⟩
theorem rcar_any (o : MO) (hsm : smL o.x) (w : World) (hr : rdL w w.heap.size o) : Calls Tryd.prog 38 #[aggL o] w (CarP o w) := by
  by_cases h1 : (o.x.kd == 1) = true
  · exact rcar1 o w hsm hr h1
  · replace h1 := Bool.eq_false_iff.2 h1
    by_cases h3 : (o.x.kd == 3) = true
    · exact rcar3 o w hsm hr h1 h3
    · exact rcarZ o w h1 (Bool.eq_false_iff.2 h3)
set_option maxHeartbeats 16000000 in
theorem rofN (o : MO) (w : World) (hc : ∀ w', Below w.heap.size w w' → Calls Tryd.prog 37 #[.agg (mA o)] w' fun en w'' => en = .returned (.bool false) ∧ Below w'.heap.size w' w'') (h : ¬ okL o.x) : Calls Tryd.prog 13 #[aggL o] w (OfP o w) := by
  obtain ⟨V, hV⟩ : ∃ V, V = (w.alloc (.cells (mA o) 32)).alloc (.cells zA 27) := ⟨_, rfl⟩
  have hB : Below w.heap.size w V := by rw [hV]; exact ((Below.refl _ _).alloc (Nat.le_refl _) _).alloc (by simp) _
  have ka : Blk V w.heap.size 32 (mA o) := by rw [hV]; exact (Blk.new w _ _).alloc _
  have kr : Blk V (w.heap.size + 1) 27 zA := by rw [hV]; simpa using Blk.new (w.alloc (.cells (mA o) 32)) 27 zA
  replace hc := hc V hB
  have gka := Lib.hid ka
  have gkr := Lib.hid kr
  have gB := Lib.hid hB
  clear ka kr hB
  have k1 := gka.out
  change Calls Tryd.prog 13 #[.agg (mA o)] w _
  go_enter Tryd.func13, Tryd.ntmps13
  go_upto_region 1 with (fail)
  rw [← hV]
  clear hV
  go_wp2_with (refine wpList_load_row rfl 32 _ rfl w.heap.size rfl 32 (mA o) (0, 0) _ ?_ Tryd.underlying32 rfl (by kernel_rfl) ?_; exact k1)
  refine hc.mono ?_
  rintro en w1 ⟨rfl, hb1⟩
  clear hc k1
  have ka1 := gka.out.below hb1 gka.out.lt
  have kr1 := gkr.out.below hb1 gkr.out.lt
  have gB1 := Lib.hid (gB.out.trans (hb1.mono gB.out.size))
  have kz := kr1.setRow zA
  have hBz := below_setRow (g := w.heap.size + 1) gB1.out (by omega) zA
  go_wp2_with (first | (refine wpList_store_row rfl 27 _ _ rfl (w.heap.size + 1) zA rfl rfl 27 zA ?_ info_mass rfl (by simp [Value.oneCell']) ?_; exact kr1) | (refine wpList_load_row rfl 27 _ rfl (w.heap.size + 1) rfl 27 zA (0, 0) _ ?_ Tryd.underlying27 rfl (by kernel_rfl) ?_; exact kr1))
  refine bodyPost_ret (ret_mass rfl _ _ (w.heap.size + 1) zA (.int .i64 100) rfl kz info_mass rfl) rfl ?_
  exact ofP_no (.inr ⟨h, rfl⟩) (fun e => by cases e.1) hBz
set_option maxHeartbeats 16000000 in
theorem rofY (o : MO) (w : World) (hc : ∀ w', Below w.heap.size w w' → Calls Tryd.prog 37 #[.agg (mA o)] w' fun en w'' => en = .returned (.bool true) ∧ Below w'.heap.size w' w'') (h : okL o.x) (hsm : smL o.x) (hrd : rdL w w.heap.size o) : Calls Tryd.prog 13 #[aggL o] w (OfP o w) := by
  obtain ⟨V, hV⟩ : ∃ V, V = (w.alloc (.cells (mA o) 32)).alloc (.cells zA 27) := ⟨_, rfl⟩
  have hB : Below w.heap.size w V := by rw [hV]; exact ((Below.refl _ _).alloc (Nat.le_refl _) _).alloc (by simp) _
  have ka : Blk V w.heap.size 32 (mA o) := by rw [hV]; exact (Blk.new w _ _).alloc _
  have kr : Blk V (w.heap.size + 1) 27 zA := by rw [hV]; simpa using Blk.new (w.alloc (.cells (mA o) 32)) 27 zA
  replace hc := hc V hB
  have gka := Lib.hid ka
  have gkr := Lib.hid kr
  have gB := Lib.hid hB
  clear ka kr hB
  have k1 := gka.out
  change Calls Tryd.prog 13 #[.agg (mA o)] w _
  go_enter Tryd.func13, Tryd.ntmps13
  go_upto_region 1 with (fail)
  rw [← hV]
  clear hV
  go_wp2_with (refine wpList_load_row rfl 32 _ rfl w.heap.size rfl 32 (mA o) (0, 0) _ ?_ Tryd.underlying32 rfl (by kernel_rfl) ?_; exact k1)
  refine hc.mono ?_
  rintro en w1 ⟨rfl, hb1⟩
  clear hc k1
  have ka1 := gka.out.below hb1 gka.out.lt
  have kr1 := gkr.out.below hb1 gkr.out.lt
  have gB1 := Lib.hid (gB.out.trans (hb1.mono gB.out.size))
  have ht := rcar_any o hsm w1 (hrd.below gB1.out gB1.out.size)
  have gh := Lib.hid h
  clear h hsm hrd
  go_wp2_with (refine wpList_load_row rfl 32 _ rfl w.heap.size rfl 32 (mA o) (0, 0) _ ?_ Tryd.underlying32 rfl (by kernel_rfl) ?_; exact ka1)
  refine ht.mono ?_
  rintro en w2 ⟨r, hr, rfl, us, hb2⟩
  have s1 := gB1.out.size
  have kr2 := kr1.below hb2 kr1.lt
  have hB2 := gB1.out.trans (hb2.mono gB1.out.size)
  have kz := kr2.setRow (oA r)
  have hBz := below_setRow (g := w.heap.size + 1) hB2 (by omega) (oA r)
  have gu := Lib.hid (us.setRow2 (g := w.heap.size + 1) kr1.lt (oA r))
  have gho := Lib.hid hr
  clear ht us hr
  go_wp2_with (refine wpList_store_row rfl 27 _ _ rfl (w.heap.size + 1) (oA r) rfl rfl 27 zA ?_ info_mass rfl (by simp [Value.oneCell']) ?_; exact kr2)
  refine bodyPost_ret (ret_mass rfl _ _ (w.heap.size + 1) (oA r) (.int .i64 0) rfl kz info_mass rfl) rfl ?_
  exact ⟨0, .inl ⟨gh.out, rfl⟩, r, gho.out, rfl, gu.out.base_le (by omega), hBz⟩
theorem rof_any (o : MO) (hsm : smL o.x) (w : World) (hr : rdL w w.heap.size o) : Calls Tryd.prog 13 #[aggL o] w (OfP o w) := by
  have hc := fun w' (h : Below w.heap.size w w') => rlmay_any o hsm w' (hr.below h h.size)
  by_cases h : okL o.x
  · exact rofY o w (fun w' h' => (hc w' h').mono (fun en w'' hh => by
      obtain ⟨R, rfl, he, hb⟩ := hh
      obtain rfl : R = true := he.2 h
      exact ⟨rfl, hb⟩)) h hsm hr
  · exact rofN o w (fun w' h' => (hc w' h').mono (fun en w'' hh => by
      obtain ⟨R, rfl, he, hb⟩ := hh
      obtain rfl : R = false := by cases R; rfl; exact absurd (he.1 rfl) h
      exact ⟨rfl, hb⟩)) h
end Go.Proofs.YtdmjdpaehnhdoaaDoor
