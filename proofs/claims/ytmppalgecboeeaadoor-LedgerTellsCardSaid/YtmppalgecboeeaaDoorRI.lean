/- Door: LedgerTells -/
import Derived.Test.YtmppalgecboeeaaDoorRH
import Derived.Test.YtmppalgecboeeaaDoorEK
import Derived.Test.YtmppalgecboeeaaDoorLI
import Derived.Test.YtmppalgecboeeaaDoorLH
import Derived.Test.YtmppalgecboeeaaDoorLG
import Derived.Test.YtmppalgecboeeaaDoorMDG
namespace Go.Proofs.YtmppalgecboeeaaDoor
open Go.ChangeShapes Go.WideShapes Go.ChangeAt Go.RowKit
set_option linter.unusedSimpArgs false
set_option linter.unusedVariables false
open Go.Shelf
set_option maxRecDepth 100000
/-- Rows of a mass that may be written over. -/
def WrM (w : World) (S : Nat → Prop) (o : MB) : Prop := WrR w S 53 o.X0 o.m.s.ls.length ∧ WrR w S 53 o.X1 o.m.w.ls.length ∧ WrR w S 53 o.X2 o.m.c.ls.length ∧ WrR w S 53 o.X3 o.m.a.ls.length
theorem WrR.keep' {w w' : World} {S : Nat → Prop} {E : TypeId} {X : Option Addr} {m : Nat} (h : WrR w S E X m) (hk : ∀ g t cs, S g → Blk w g t cs → Blk w' g t cs) : WrR w' S E X m := fun h0 => by
  obtain ⟨g, T, cur, e, hg, hb, hm, hT⟩ := h h0
  exact ⟨g, T, cur, e, hg, hk g T cur hg hb, hm, hT⟩
theorem WrM.keep' {w w' : World} {S : Nat → Prop} {o : MB} (h : WrM w S o) (hk : ∀ g t cs, S g → Blk w g t cs → Blk w' g t cs) : WrM w' S o := ⟨h.1.keep' hk, h.2.1.keep' hk, h.2.2.1.keep' hk, h.2.2.2.keep' hk⟩
theorem WrM.below {w w' : World} {S : Nat → Prop} {o : MB} (h : WrM w S o) (hb : Below w.heap.size w w') : WrM w' S o := h.keep' fun g t cs _ hB => hB.below hb hB.lt
theorem wrR_own {w : World} {B c : Nat} {X : Option Addr} {d : Dy} (h : OwD w B X c d) : WrR w (fun g => B ≤ g ∧ g < w.heap.size) 53 X d.ls.length := fun h0 => by
  obtain ⟨g, cur, e, hg, hb, ht⟩ := h.2.2 h0
  refine ⟨g, _, cur, e, ⟨hg, hb.lt⟩, hb, ?_, by decide⟩
  have h1 := congrArg List.length ht
  rw [List.length_take] at h1
  simp only [ints, List.length_map, Array.length_toList] at h1
  omega
theorem wrM_own {w : World} {B : Nat} {o : MB} (h : OwM w B o) : WrM w (fun g => B ≤ g ∧ g < w.heap.size) o := ⟨wrR_own h.1, wrR_own h.2.1, wrR_own h.2.2.1, wrR_own h.2.2.2⟩
/-- Blocks outside S stay. -/
def Un (S : Nat → Prop) (w w' : World) : Prop := Below 0 w w' ∧ ∀ g, g < w.heap.size → ¬ S g → w'.heap[g]? = w.heap[g]?
theorem Un.refl (S : Nat → Prop) (w : World) : Un S w w := ⟨Below.refl _ _, fun _ _ _ => rfl⟩
theorem Un.trans {S : Nat → Prop} {a b c : World} (h : Un S a b) (k : Un S b c) : Un S a c := ⟨h.1.trans k.1, fun g hg hs => (k.2 g (Nat.lt_of_lt_of_le hg h.1.size) hs).trans (h.2 g hg hs)⟩
theorem Un.of_sp {S : Nat → Prop} {E : TypeId} {a b : World} (h : SpR S E a b) : Un S a b := ⟨h.1, h.2.1⟩
theorem Un.of_fr {S : Nat → Prop} {a b : World} (h : Fr S a b) : Un S a b := ⟨h.1, fun g _ hs => h.2.2 g hs⟩
theorem Un.blk {S : Nat → Prop} {a b : World} (h : Un S a b) {g : Nat} {t : TypeId} {cs : Array Value} (hk : Blk a g t cs) (hs : ¬ S g) : Blk b g t cs := (h.2 g hk.lt hs).trans hk
theorem Un.below {S : Nat → Prop} {a b : World} (h : Un S a b) {B : Nat} (hB : B ≤ a.heap.size) (hS : ∀ g, S g → B ≤ g) : Below B a b := ⟨h.1.os, h.1.tape, h.1.output, h.1.size, fun g hg => h.2 g (by omega) (fun hs => by have := hS g hs; omega)⟩
theorem okM_lsM {E : Int} {l : List Ms} : smM (lsM E (sumL l)) := (lsM_ok (fun d hd => sumL_ok hd)).sm
theorem fine_smT {l : List En} (h : fine l) : ∀ x ∈ l, smM x.give := fun x hx => by
  have := h x hx
  unfold smM
  omega
theorem grM_smT {m : Ms} (h : grM m.s.ls.length m.s.ex m.w.ls.length m.w.ex m.c.ls.length m.c.ex m.a.ls.length m.a.ex = false) : smM m := by
  have := grM_no h
  unfold smM
  omega
theorem fdsE_lenT (l : List En) : ∀ r, r ∈ l.map fdsE → r.length = 14 := by
  intro r hr
  obtain ⟨x, _, rfl⟩ := List.mem_map.1 hr
  rfl
theorem bkL_sm {l : List En} {N y : Int} {g : Ms} (h1 : ∀ x ∈ l, smM x.give) (h2 : smM g) : ∀ x ∈ bkL l N y g, smM x.give := by
  unfold bkL
  split
  · exact fun x h => by cases h
  · split
    · exact h1
    · intro x h
      rcases List.mem_append.1 h with h | h
      · exact h1 x h
      · rw [List.mem_singleton.1 h]; exact h2
theorem bkL_len {l : List En} {N y : Int} {g : Ms} : (bkL l N y g).length ≤ l.length + 1 := by
  unfold bkL
  split
  · simp
  · split
    · omega
    · rw [List.length_append]; simp
/-- Behind the copies of the ledger and of the mass. -/
structure Mid (w2 : World) (n : Nat) (l : List En) (mx : Ms) (s9 s10 : Value) (wx : World) : Prop where
  out : ∃ (Ao : Option Addr) (co gm : Nat) (om : MB), s9 = .slice Ao n co ∧ s10 = .pointer (some ⟨gm, 0, none⟩) ∧ om.m = mx ∧ Ens wx wx.heap.size Ao n l ∧ RdO wx om ∧ Blk wx gm 27 #[.bool om.m.s.neg, .slice om.X0 om.m.s.ls.length om.c0, .int .i64 om.m.s.ex, .bool om.m.w.neg, .slice om.X1 om.m.w.ls.length om.c1, .int .i64 om.m.w.ex, .bool om.m.c.neg, .slice om.X2 om.m.c.ls.length om.c2, .int .i64 om.m.c.ex, .bool om.m.a.neg, .slice om.X3 om.m.a.ls.length om.c3, .int .i64 om.m.a.ex] ∧ Below w2.heap.size w2 wx
theorem accE_ens {w : World} {base r c : Nat} {A : Option Addr} {l : List En} (h : AccE w base (.slice A r c) r l) : Ens w w.heap.size A r l := by
  obtain ⟨os, rfl, ho, ht⟩ := h
  exact rows_ens (Reads.of_own ho) (fun o h => (ht o h).rd)
theorem own_farT {w : World} {base size n : Nat} {e : TypeId} {v : Value} {xs : List Value} (h : w.ownsRow base e size v n xs) {p : Addr} (hp : p.block < base) (u : Value) : (w.setCell p u).ownsRow base e size v n xs := by
  refine ⟨h.1, ?_⟩
  rcases h.2 with hn | ⟨k, c, cur, rfl, hb, hh, q⟩
  · exact .inl hn
  · exact .inr ⟨k, c, cur, rfl, hb, (Below.heap_setCell w p u k (by omega)).trans hh, q⟩
theorem AccE.far {w : World} {base r : Nat} {v : Value} {l : List En} (h : AccE w base v r l) {p : Addr} (hp : p.block < base) (u : Value) : AccE (w.setCell p u) base v r l := by
  obtain ⟨os, e, ho, ht⟩ := h
  exact ⟨os, e, own_farT ho hp u, fun o h => (ht o h).map (fun q => q.far hp u)⟩
theorem AccE.c12 {w : World} {base r g : Nat} {v : Value} {l : List En} (h : AccE w base v r l) (hg : g < base) (u0 u1 u2 u3 u4 u5 u6 u7 u8 u9 u10 u11 : Value) : AccE (c12 w g u0 u1 u2 u3 u4 u5 u6 u7 u8 u9 u10 u11) base v r l := by
  unfold _root_.Go.Proofs.YtmppalgecboeeaaDoor.c12
  exact (((((((((((h.far (p := ⟨g, 0, none⟩) hg u0).far (p := ⟨g, 1, none⟩) hg u1).far (p := ⟨g, 2, none⟩) hg u2).far (p := ⟨g, 3, none⟩) hg u3).far (p := ⟨g, 4, none⟩) hg u4).far (p := ⟨g, 5, none⟩) hg u5).far (p := ⟨g, 6, none⟩) hg u6).far (p := ⟨g, 7, none⟩) hg u7).far (p := ⟨g, 8, none⟩) hg u8).far (p := ⟨g, 9, none⟩) hg u9).far (p := ⟨g, 10, none⟩) hg u10).far (p := ⟨g, 11, none⟩) hg u11
set_option maxHeartbeats 64000000 in
theorem LedgerTells.walk (A : Option Addr) (n c : Nat) (l : List En) (hmx : n ≤ maxLen) (hl : ∀ x ∈ l, ltM4 x.give) (N y : Int) (g : MB) (lg : ltM4 g.m) (w : World) (h1 : Ens w w.heap.size A n l) (h2 : RdO w g) (hT : Tab w) : Calls Tryd.prog 3 #[.slice A n c, .int .i64 N, .int .u8 y, .agg #[.bool g.m.s.neg, .slice g.X0 g.m.s.ls.length g.c0, .int .i64 g.m.s.ex, .bool g.m.w.neg, .slice g.X1 g.m.w.ls.length g.c1, .int .i64 g.m.w.ex, .bool g.m.c.neg, .slice g.X2 g.m.c.ls.length g.c2, .int .i64 g.m.c.ex, .bool g.m.a.neg, .slice g.X3 g.m.a.ls.length g.c3, .int .i64 g.m.a.ex]] w fun en w' => en = .returned (.bool true) ∧ Below w.heap.size w w' := by
  have gln := Lib.hid (ens_len h1)
  obtain ⟨V, hV⟩ : ∃ V, V = w.alloc (.cells #[.bool g.m.s.neg, .slice g.X0 g.m.s.ls.length g.c0, .int .i64 g.m.s.ex, .bool g.m.w.neg, .slice g.X1 g.m.w.ls.length g.c1, .int .i64 g.m.w.ex, .bool g.m.c.neg, .slice g.X2 g.m.c.ls.length g.c2, .int .i64 g.m.c.ex, .bool g.m.a.neg, .slice g.X3 g.m.a.ls.length g.c3, .int .i64 g.m.a.ex] 27) := ⟨_, rfl⟩
  have hB : Below w.heap.size w V := by rw [hV]; exact (Below.refl _ w).alloc (Nat.le_refl _) _
  have kg : Hid (Blk V w.heap.size 27 #[.bool g.m.s.neg, .slice g.X0 g.m.s.ls.length g.c0, .int .i64 g.m.s.ex, .bool g.m.w.neg, .slice g.X1 g.m.w.ls.length g.c1, .int .i64 g.m.w.ex, .bool g.m.c.neg, .slice g.X2 g.m.c.ls.length g.c2, .int .i64 g.m.c.ex, .bool g.m.a.neg, .slice g.X3 g.m.a.ls.length g.c3, .int .i64 g.m.a.ex]) := Lib.hid (by rw [hV]; exact Blk.new w _ _)
  have gT := Lib.hid (hT.below hB hT.2)
  have r1 := Lib.hid (Recs.more (Recs.below h1 hB) hB.size)
  have ug := Lib.hid (RdO.below h2 hB)
  have gB := Lib.hid hB
  clear hB h1 h2 hT
  go_enter Tryd.func3, Tryd.ntmps3
  go_wp2_with fail
  rw [← hV]
  clear hV
  refine (egreat_any A n c l hmx V r1.out).mono ?_
  rintro en x1 ⟨G, rfl, hb, hG⟩
  have sx1 : V.heap.size ≤ x1.heap.size := hb.size
  replace kg := Lib.hid (kg.out.below hb kg.out.lt)
  replace r1 := Lib.hid (Recs.more (Recs.below r1.out hb) hb.size)
  replace ug := Lib.hid (RdO.below ug.out hb)
  replace gT := Lib.hid (Tab.below gT.out hb gT.out.2)
  replace gB := Lib.hid (gB.out.trans (hb.mono gB.out.size))
  clear hb
  cases G with
  | true =>
    clear hG
    go_wp2
    go_ret
    exact ⟨rfl, gB.out⟩
  | false =>
  have gG := Lib.hid (hG rfl)
  clear hG
  have gs := Lib.hid (fine_smT gG.out.2)
  obtain ⟨R, hR⟩ : ∃ R, grM g.m.s.ls.length g.m.s.ex g.m.w.ls.length g.m.w.ex g.m.c.ls.length g.m.c.ex g.m.a.ls.length g.m.a.ex = R := ⟨_, rfl⟩
  have gR := Lib.hid hR
  clear hR
  have z0 : x1.cell? ⟨w.heap.size, 0, none⟩ = some (.bool g.m.s.neg) := by rw [kg.out.cell]; rfl
  have z1 : x1.cell? ⟨w.heap.size, 1, none⟩ = some (.slice g.X0 g.m.s.ls.length g.c0) := by rw [kg.out.cell]; rfl
  have z2 : x1.cell? ⟨w.heap.size, 2, none⟩ = some (.int .i64 g.m.s.ex) := by rw [kg.out.cell]; rfl
  have z3 : x1.cell? ⟨w.heap.size, 3, none⟩ = some (.bool g.m.w.neg) := by rw [kg.out.cell]; rfl
  have z4 : x1.cell? ⟨w.heap.size, 4, none⟩ = some (.slice g.X1 g.m.w.ls.length g.c1) := by rw [kg.out.cell]; rfl
  have z5 : x1.cell? ⟨w.heap.size, 5, none⟩ = some (.int .i64 g.m.w.ex) := by rw [kg.out.cell]; rfl
  have z6 : x1.cell? ⟨w.heap.size, 6, none⟩ = some (.bool g.m.c.neg) := by rw [kg.out.cell]; rfl
  have z7 : x1.cell? ⟨w.heap.size, 7, none⟩ = some (.slice g.X2 g.m.c.ls.length g.c2) := by rw [kg.out.cell]; rfl
  have z8 : x1.cell? ⟨w.heap.size, 8, none⟩ = some (.int .i64 g.m.c.ex) := by rw [kg.out.cell]; rfl
  have z9 : x1.cell? ⟨w.heap.size, 9, none⟩ = some (.bool g.m.a.neg) := by rw [kg.out.cell]; rfl
  have z10 : x1.cell? ⟨w.heap.size, 10, none⟩ = some (.slice g.X3 g.m.a.ls.length g.c3) := by rw [kg.out.cell]; rfl
  have z11 : x1.cell? ⟨w.heap.size, 11, none⟩ = some (.int .i64 g.m.a.ex) := by rw [kg.out.cell]; rfl
  go_wp2_with fail
  refine (mgreat_any g.m.s.neg g.X0 g.m.s.ls.length g.c0 g.m.s.ex g.m.w.neg g.X1 g.m.w.ls.length g.c1 g.m.w.ex g.m.c.neg g.X2 g.m.c.ls.length g.c2 g.m.c.ex g.m.a.neg g.X3 g.m.a.ls.length g.c3 g.m.a.ex R gR.out x1).mono ?_
  rintro en x2 ⟨rfl, hb⟩
  have sx2 : x1.heap.size ≤ x2.heap.size := hb.size
  replace kg := Lib.hid (kg.out.below hb kg.out.lt)
  replace r1 := Lib.hid (Recs.more (Recs.below r1.out hb) hb.size)
  replace ug := Lib.hid (RdO.below ug.out hb)
  replace gT := Lib.hid (Tab.below gT.out hb gT.out.2)
  replace gB := Lib.hid (gB.out.trans (hb.mono gB.out.size))
  clear hb
  clear z0 z1 z2 z3 z4 z5 z6 z7 z8 z9 z10 z11
  cases R with
  | true =>
    go_wp2
    go_ret
    exact ⟨rfl, gB.out⟩
  | false =>
  have gsm := Lib.hid (grM_smT gR.out)
  have hn83 : n ≤ 8300 := by have h1 := gG.out.1; have h2 := gln.out; rw [h2] at h1; omega
  have hn10 : n ≤ 10000 := by omega
  obtain ⟨w2, hw2⟩ : ∃ w2, w2 = x2 := ⟨_, rfl⟩
  subst hw2
  have hT1 : ∀ w', Below w2.heap.size w2 w' → Calls Tryd.prog 9 #[.slice A n c] w' fun en w'' => ∃ Ao co, en = .returned (.slice Ao n co) ∧ Ens w'' w''.heap.size Ao n l ∧ AccE w'' w'.heap.size (.slice Ao n co) n l ∧ Below w'.heap.size w' w'' := fun w' hb => by
    refine (retwin_any A n c l hn10 gs.out w' (Recs.more (Recs.below r1.out hb) hb.size)).mono ?_
    rintro en w'' ⟨Ao, co, rfl, hT⟩
    exact ⟨Ao, co, rfl, hT.2.1, hT.2.2.2.2, hT.2.2.2.1⟩
  have hT2 : ∀ w', Below w2.heap.size w2 w' → Calls Tryd.prog 10 #[.agg #[.bool g.m.s.neg, .slice g.X0 g.m.s.ls.length g.c0, .int .i64 g.m.s.ex, .bool g.m.w.neg, .slice g.X1 g.m.w.ls.length g.c1, .int .i64 g.m.w.ex, .bool g.m.c.neg, .slice g.X2 g.m.c.ls.length g.c2, .int .i64 g.m.c.ex, .bool g.m.a.neg, .slice g.X3 g.m.a.ls.length g.c3, .int .i64 g.m.a.ex]] w' fun en w'' => ∃ om : MB, en = .returned (.agg #[.bool om.m.s.neg, .slice om.X0 om.m.s.ls.length om.c0, .int .i64 om.m.s.ex, .bool om.m.w.neg, .slice om.X1 om.m.w.ls.length om.c1, .int .i64 om.m.w.ex, .bool om.m.c.neg, .slice om.X2 om.m.c.ls.length om.c2, .int .i64 om.m.c.ex, .bool om.m.a.neg, .slice om.X3 om.m.a.ls.length om.c3, .int .i64 om.m.a.ex]) ∧ om.m = g.m ∧ RdO w'' om ∧ Below w'.heap.size w' w'' := fun w' hb => by
    refine (rmtwin_any g.m.s.neg g.X0 g.m.s.ls.length g.c0 g.m.s.ex g.m.w.neg g.X1 g.m.w.ls.length g.c1 g.m.w.ex g.m.c.neg g.X2 g.m.c.ls.length g.c2 g.m.c.ex g.m.a.neg g.X3 g.m.a.ls.length g.c3 g.m.a.ex g.m gsm.out w' (RdM.below ug.out hb hb.size)).mono ?_
    rintro en w'' ⟨X0, c0, X1, c1, X2, c2, X3, c3, rfl, o0, o1, o2, o3, hbM⟩
    exact ⟨⟨g.m, X0, c0, X1, c1, X2, c2, X3, c3⟩, rfl, rfl, ⟨⟨rfl, rfl, rfl, o0.1, o0.2.reads⟩, ⟨rfl, rfl, rfl, o1.1, o1.2.reads⟩, ⟨rfl, rfl, rfl, o2.1, o2.2.reads⟩, ⟨rfl, rfl, rfl, o3.1, o3.2.reads⟩⟩, hbM⟩
  have SS : ∀ w', Below w2.heap.size w2 w' → (w'.cell? ⟨w.heap.size, 0, none⟩ = some (.bool g.m.s.neg) ∧ w'.cell? ⟨w.heap.size, 1, none⟩ = some (.slice g.X0 g.m.s.ls.length g.c0) ∧ w'.cell? ⟨w.heap.size, 2, none⟩ = some (.int .i64 g.m.s.ex) ∧ w'.cell? ⟨w.heap.size, 3, none⟩ = some (.bool g.m.w.neg) ∧ w'.cell? ⟨w.heap.size, 4, none⟩ = some (.slice g.X1 g.m.w.ls.length g.c1) ∧ w'.cell? ⟨w.heap.size, 5, none⟩ = some (.int .i64 g.m.w.ex) ∧ w'.cell? ⟨w.heap.size, 6, none⟩ = some (.bool g.m.c.neg) ∧ w'.cell? ⟨w.heap.size, 7, none⟩ = some (.slice g.X2 g.m.c.ls.length g.c2) ∧ w'.cell? ⟨w.heap.size, 8, none⟩ = some (.int .i64 g.m.c.ex) ∧ w'.cell? ⟨w.heap.size, 9, none⟩ = some (.bool g.m.a.neg) ∧ w'.cell? ⟨w.heap.size, 10, none⟩ = some (.slice g.X3 g.m.a.ls.length g.c3) ∧ w'.cell? ⟨w.heap.size, 11, none⟩ = some (.int .i64 g.m.a.ex)) := by
    intro w' hw
    have k' := kg.out.below hw kg.out.lt
    exact ⟨by rw [k'.cell]; rfl, by rw [k'.cell]; rfl, by rw [k'.cell]; rfl, by rw [k'.cell]; rfl, by rw [k'.cell]; rfl, by rw [k'.cell]; rfl, by rw [k'.cell]; rfl, by rw [k'.cell]; rfl, by rw [k'.cell]; rfl, by rw [k'.cell]; rfl, by rw [k'.cell]; rfl, by rw [k'.cell]; rfl⟩
  go_upto_region 3 with (fail)
  go_cut [9, 10] (fun s9 s10 wx => Mid w2 n l g.m s9 s10 wx)
  case first =>
    obtain ⟨y0, y1, y2, y3, y4, y5, y6, y7, y8, y9, y10, y11⟩ := SS w2 (Below.refl _ _)
    clear y0 y1 y2 y3 y4 y5 y6 y7 y8 y9 y10 y11
    refine wp_region_noPanic ?_
    refine wp_region_held_drew (S := fun w' => w'.cell? ⟨w.heap.size, 0, none⟩ = some (.bool g.m.s.neg) ∧ w'.cell? ⟨w.heap.size, 1, none⟩ = some (.slice g.X0 g.m.s.ls.length g.c0) ∧ w'.cell? ⟨w.heap.size, 2, none⟩ = some (.int .i64 g.m.s.ex) ∧ w'.cell? ⟨w.heap.size, 3, none⟩ = some (.bool g.m.w.neg) ∧ w'.cell? ⟨w.heap.size, 4, none⟩ = some (.slice g.X1 g.m.w.ls.length g.c1) ∧ w'.cell? ⟨w.heap.size, 5, none⟩ = some (.int .i64 g.m.w.ex) ∧ w'.cell? ⟨w.heap.size, 6, none⟩ = some (.bool g.m.c.neg) ∧ w'.cell? ⟨w.heap.size, 7, none⟩ = some (.slice g.X2 g.m.c.ls.length g.c2) ∧ w'.cell? ⟨w.heap.size, 8, none⟩ = some (.int .i64 g.m.c.ex) ∧ w'.cell? ⟨w.heap.size, 9, none⟩ = some (.bool g.m.a.neg) ∧ w'.cell? ⟨w.heap.size, 10, none⟩ = some (.slice g.X3 g.m.a.ls.length g.c3) ∧ w'.cell? ⟨w.heap.size, 11, none⟩ = some (.int .i64 g.m.a.ex)) (by kernel_rfl) (SS _ bls) (fun hHeld => ?_)
    refine tkY 0 (h := ?_)
    (try simp only [Act.put, List.setIfInBounds_toArray, List.set_cons_zero, List.set_cons_succ])
    refine tkY 2 (h := ?_)
    (try simp only [Act.put, List.setIfInBounds_toArray, List.set_cons_zero, List.set_cons_succ])
    refine wpAnyH_ready (rs := [1, 4]) (by kernel_rfl) (by simp) ?_
    refine AllReadyH.cons rfl (fun K hK => ?_) (AllReadyH.cons rfl (fun K hK => ?_) AllReadyH.nil)
    · go_simp
      with_reducible refine (hT1 _ bls).mono ?_
      rintro en v1 ⟨Ao, co, rfl, hr1, hA1, hv1⟩
      have hv12 : Below w2.heap.size w2 v1 := Below.trans bls (hv1.mono (by first | exact Nat.le_refl _ | (simp only [World.size_alloc, World.size_drew, World.size_setCell]; omega) | omega))
      have sv1 : w2.heap.size ≤ v1.heap.size := hv12.size
      have gr1 := Lib.hid hr1
      have gA1 := Lib.hid hA1
      clear hr1 hA1
      refine hK.out _ _ (SS _ bls) (fun hHeld => ?_)
      clear hK K
      (try simp only [Act.put, List.setIfInBounds_toArray, List.set_cons_zero, List.set_cons_succ])
      refine wpAnyH_ready (rs := [3, 4]) (by kernel_rfl) (by simp) ?_
      refine AllReadyH.cons rfl (fun K hK => ?_) (AllReadyH.cons rfl (fun K hK => ?_) AllReadyH.nil)
      · go_simp
        with_reducible refine (hT2 _ bls).mono ?_
        rintro en v3 ⟨om, rfl, em, hr2, hv3⟩
        have hv32 : Below w2.heap.size w2 v3 := Below.trans bls (hv3.mono (by first | exact Nat.le_refl _ | (simp only [World.size_alloc, World.size_drew, World.size_setCell]; omega) | omega))
        have sv3 : w2.heap.size ≤ v3.heap.size := hv32.size
        have gr2 := Lib.hid hr2
        have gem := Lib.hid em
        clear hr2 em
        replace gr1 := Lib.hid (Recs.more (Recs.below gr1.out hv3) hv3.size)
        replace gA1 := Lib.hid (AccE.below gA1.out hv3)
        refine hK.out _ _ (SS _ bls) (fun hHeld => ?_)
        clear hK K
        (try simp only [Act.put, List.setIfInBounds_toArray, List.set_cons_zero, List.set_cons_succ])
        refine tkR 4 (h := fun K hK => ?_)
        go_simp
        refine hK.out _ _ (SS _ bls) (fun hHeld => ?_)
        clear hK K
        (try simp only [Act.put, List.setIfInBounds_toArray, List.set_cons_zero, List.set_cons_succ])
        refine tkY 5 (h := ?_)
        (try simp only [Act.put, List.setIfInBounds_toArray, List.set_cons_zero, List.set_cons_succ])
        refine tkR 6 (h := fun K hK => ?_)
        go_simp
        refine hK.out _ _ (SS _ bls) (fun hHeld => ?_)
        clear hK K
        (try simp only [Act.put, List.setIfInBounds_toArray, List.set_cons_zero, List.set_cons_succ])
        refine wpAnyH_done (by kernel_rfl) ?_ _
        refine NoPanic.normal ?_
        (try go_wp2_with fail)
        go_meet
        exact ⟨Ao, co, v3.heap.size, om, rfl, rfl, gem.out, Recs.more (Recs.below gr1.out ((Below.refl _ _).alloc (Nat.le_refl _) _)) ((Below.refl _ _).alloc (Nat.le_refl _) _).size, RdO.below gr2.out ((Below.refl _ _).alloc (Nat.le_refl _) _), Blk.new _ _ _, bls⟩
      · go_simp
        refine hK.out _ _ (SS _ bls) (fun hHeld => ?_)
        clear hK K
        (try simp only [Act.put, List.setIfInBounds_toArray, List.set_cons_zero, List.set_cons_succ])
        refine tkR 3 (h := fun K hK => ?_)
        go_simp
        with_reducible refine (hT2 _ bls).mono ?_
        rintro en v3 ⟨om, rfl, em, hr2, hv3⟩
        have hv32 : Below w2.heap.size w2 v3 := Below.trans bls (hv3.mono (by first | exact Nat.le_refl _ | (simp only [World.size_alloc, World.size_drew, World.size_setCell]; omega) | omega))
        have sv3 : w2.heap.size ≤ v3.heap.size := hv32.size
        have gr2 := Lib.hid hr2
        have gem := Lib.hid em
        clear hr2 em
        have hv31 : Below v1.heap.size v1 v3 := ((Below.refl _ _).alloc (Nat.le_refl _) _).trans (hv3.mono ((Below.refl _ _).alloc (Nat.le_refl _) _).size)
        replace gr1 := Lib.hid (Recs.below gr1.out hv31)
        have gv31 := Lib.hid hv31.size
        have k6 := new_keep hv3
        have z0 := k6.cell 0
        have z1 := k6.cell 1
        have z2 := k6.cell 2
        have z3 := k6.cell 3
        have z4 := k6.cell 4
        have z5 := k6.cell 5
        have z6 := k6.cell 6
        have z7 := k6.cell 7
        have z8 := k6.cell 8
        have z9 := k6.cell 9
        have z10 := k6.cell 10
        have z11 := k6.cell 11
        simp only [List.getElem?_toArray, List.getElem?_cons_zero, List.getElem?_cons_succ] at z0 z1 z2 z3 z4 z5 z6 z7 z8 z9 z10 z11
        have f0 := k6.frozen 0
        have f1 := k6.frozen 1
        have f2 := k6.frozen 2
        have f3 := k6.frozen 3
        have f4 := k6.frozen 4
        have f5 := k6.frozen 5
        have f6 := k6.frozen 6
        have f7 := k6.frozen 7
        have f8 := k6.frozen 8
        have f9 := k6.frozen 9
        have f10 := k6.frozen 10
        have f11 := k6.frozen 11
        have gk6 := Lib.hid k6
        clear k6
        refine hK.out _ _ (SS _ bls) (fun hHeld => ?_)
        clear hK K
        (try simp only [Act.put, List.setIfInBounds_toArray, List.set_cons_zero, List.set_cons_succ])
        refine tkY 5 (h := ?_)
        (try simp only [Act.put, List.setIfInBounds_toArray, List.set_cons_zero, List.set_cons_succ])
        refine tkR 6 (h := fun K hK => ?_)
        go_simp
        refine hK.out _ _ (SS _ bls) (fun hHeld => ?_)
        clear hK K
        (try simp only [Act.put, List.setIfInBounds_toArray, List.set_cons_zero, List.set_cons_succ])
        refine wpAnyH_done (by kernel_rfl) ?_ _
        refine NoPanic.normal ?_
        (try go_wp2_with fail)
        go_meet
        exact ⟨Ao, co, v1.heap.size, om, rfl, rfl, gem.out, Recs.more (Recs.below gr1.out (c12_below (Below.refl _ v3) (Nat.le_refl _) (.bool om.m.s.neg) (.slice om.X0 om.m.s.ls.length om.c0) (.int .i64 om.m.s.ex) (.bool om.m.w.neg) (.slice om.X1 om.m.w.ls.length om.c1) (.int .i64 om.m.w.ex) (.bool om.m.c.neg) (.slice om.X2 om.m.c.ls.length om.c2) (.int .i64 om.m.c.ex) (.bool om.m.a.neg) (.slice om.X3 om.m.a.ls.length om.c3) (.int .i64 om.m.a.ex))) (by simp only [World.size_setCell]; exact gv31.out), c12_rdo gr2.out gk6.out (.bool om.m.s.neg) (.slice om.X0 om.m.s.ls.length om.c0) (.int .i64 om.m.s.ex) (.bool om.m.w.neg) (.slice om.X1 om.m.w.ls.length om.c1) (.int .i64 om.m.w.ex) (.bool om.m.c.neg) (.slice om.X2 om.m.c.ls.length om.c2) (.int .i64 om.m.c.ex) (.bool om.m.a.neg) (.slice om.X3 om.m.a.ls.length om.c3) (.int .i64 om.m.a.ex), c12_blk gk6.out (.bool om.m.s.neg) (.slice om.X0 om.m.s.ls.length om.c0) (.int .i64 om.m.s.ex) (.bool om.m.w.neg) (.slice om.X1 om.m.w.ls.length om.c1) (.int .i64 om.m.w.ex) (.bool om.m.c.neg) (.slice om.X2 om.m.c.ls.length om.c2) (.int .i64 om.m.c.ex) (.bool om.m.a.neg) (.slice om.X3 om.m.a.ls.length om.c3) (.int .i64 om.m.a.ex), c12_below bls (by first | exact Nat.le_refl _ | (simp only [World.size_alloc, World.size_drew, World.size_setCell]; omega) | omega) (.bool om.m.s.neg) (.slice om.X0 om.m.s.ls.length om.c0) (.int .i64 om.m.s.ex) (.bool om.m.w.neg) (.slice om.X1 om.m.w.ls.length om.c1) (.int .i64 om.m.w.ex) (.bool om.m.c.neg) (.slice om.X2 om.m.c.ls.length om.c2) (.int .i64 om.m.c.ex) (.bool om.m.a.neg) (.slice om.X3 om.m.a.ls.length om.c3) (.int .i64 om.m.a.ex)⟩
    · go_simp
      refine hK.out _ _ (SS _ bls) (fun hHeld => ?_)
      clear hK K
      (try simp only [Act.put, List.setIfInBounds_toArray, List.set_cons_zero, List.set_cons_succ])
      refine tkR 1 (h := fun K hK => ?_)
      go_simp
      with_reducible refine (hT1 _ bls).mono ?_
      rintro en v1 ⟨Ao, co, rfl, hr1, hA1, hv1⟩
      have hv12 : Below w2.heap.size w2 v1 := Below.trans bls (hv1.mono (by first | exact Nat.le_refl _ | (simp only [World.size_alloc, World.size_drew, World.size_setCell]; omega) | omega))
      have sv1 : w2.heap.size ≤ v1.heap.size := hv12.size
      have gr1 := Lib.hid hr1
      have gA1 := Lib.hid hA1
      clear hr1 hA1
      first | have k6 := new_keep hv1 | have k6 := new_keep2 hv1
      have gk6 := Lib.hid k6
      clear k6
      refine hK.out _ _ (SS _ bls) (fun hHeld => ?_)
      clear hK K
      (try simp only [Act.put, List.setIfInBounds_toArray, List.set_cons_zero, List.set_cons_succ])
      refine tkR 3 (h := fun K hK => ?_)
      go_simp
      with_reducible refine (hT2 _ bls).mono ?_
      rintro en v3 ⟨om, rfl, em, hr2, hv3⟩
      have hv32 : Below w2.heap.size w2 v3 := Below.trans bls (hv3.mono (by first | exact Nat.le_refl _ | (simp only [World.size_alloc, World.size_drew, World.size_setCell]; omega) | omega))
      have sv3 : w2.heap.size ≤ v3.heap.size := hv32.size
      have gr2 := Lib.hid hr2
      have gem := Lib.hid em
      clear hr2 em
      replace gr1 := Lib.hid (Recs.more (Recs.below gr1.out hv3) hv3.size)
      replace gA1 := Lib.hid (AccE.below gA1.out hv3)
      have k6 := gk6.out.below hv3 gk6.out.lt
      have z0 := k6.cell 0
      have z1 := k6.cell 1
      have z2 := k6.cell 2
      have z3 := k6.cell 3
      have z4 := k6.cell 4
      have z5 := k6.cell 5
      have z6 := k6.cell 6
      have z7 := k6.cell 7
      have z8 := k6.cell 8
      have z9 := k6.cell 9
      have z10 := k6.cell 10
      have z11 := k6.cell 11
      simp only [List.getElem?_toArray, List.getElem?_cons_zero, List.getElem?_cons_succ] at z0 z1 z2 z3 z4 z5 z6 z7 z8 z9 z10 z11
      have f0 := k6.frozen 0
      have f1 := k6.frozen 1
      have f2 := k6.frozen 2
      have f3 := k6.frozen 3
      have f4 := k6.frozen 4
      have f5 := k6.frozen 5
      have f6 := k6.frozen 6
      have f7 := k6.frozen 7
      have f8 := k6.frozen 8
      have f9 := k6.frozen 9
      have f10 := k6.frozen 10
      have f11 := k6.frozen 11
      replace gk6 := Lib.hid k6
      clear k6
      refine hK.out _ _ (SS _ bls) (fun hHeld => ?_)
      clear hK K
      (try simp only [Act.put, List.setIfInBounds_toArray, List.set_cons_zero, List.set_cons_succ])
      refine tkY 5 (h := ?_)
      (try simp only [Act.put, List.setIfInBounds_toArray, List.set_cons_zero, List.set_cons_succ])
      refine tkR 6 (h := fun K hK => ?_)
      go_simp
      refine hK.out _ _ (SS _ bls) (fun hHeld => ?_)
      clear hK K
      (try simp only [Act.put, List.setIfInBounds_toArray, List.set_cons_zero, List.set_cons_succ])
      refine wpAnyH_done (by kernel_rfl) ?_ _
      refine NoPanic.normal ?_
      (try go_wp2_with fail)
      go_meet
      exact ⟨Ao, co, w2.heap.size, om, rfl, rfl, gem.out, accE_ens (AccE.c12 gA1.out (by first | exact Nat.le_refl _ | (simp only [World.size_alloc, World.size_drew, World.size_setCell]; omega) | omega) (.bool om.m.s.neg) (.slice om.X0 om.m.s.ls.length om.c0) (.int .i64 om.m.s.ex) (.bool om.m.w.neg) (.slice om.X1 om.m.w.ls.length om.c1) (.int .i64 om.m.w.ex) (.bool om.m.c.neg) (.slice om.X2 om.m.c.ls.length om.c2) (.int .i64 om.m.c.ex) (.bool om.m.a.neg) (.slice om.X3 om.m.a.ls.length om.c3) (.int .i64 om.m.a.ex)), c12_rdo gr2.out gk6.out (.bool om.m.s.neg) (.slice om.X0 om.m.s.ls.length om.c0) (.int .i64 om.m.s.ex) (.bool om.m.w.neg) (.slice om.X1 om.m.w.ls.length om.c1) (.int .i64 om.m.w.ex) (.bool om.m.c.neg) (.slice om.X2 om.m.c.ls.length om.c2) (.int .i64 om.m.c.ex) (.bool om.m.a.neg) (.slice om.X3 om.m.a.ls.length om.c3) (.int .i64 om.m.a.ex), c12_blk gk6.out (.bool om.m.s.neg) (.slice om.X0 om.m.s.ls.length om.c0) (.int .i64 om.m.s.ex) (.bool om.m.w.neg) (.slice om.X1 om.m.w.ls.length om.c1) (.int .i64 om.m.w.ex) (.bool om.m.c.neg) (.slice om.X2 om.m.c.ls.length om.c2) (.int .i64 om.m.c.ex) (.bool om.m.a.neg) (.slice om.X3 om.m.a.ls.length om.c3) (.int .i64 om.m.a.ex), c12_below bls (by first | exact Nat.le_refl _ | (simp only [World.size_alloc, World.size_drew, World.size_setCell]; omega) | omega) (.bool om.m.s.neg) (.slice om.X0 om.m.s.ls.length om.c0) (.int .i64 om.m.s.ex) (.bool om.m.w.neg) (.slice om.X1 om.m.w.ls.length om.c1) (.int .i64 om.m.w.ex) (.bool om.m.c.neg) (.slice om.X2 om.m.c.ls.length om.c2) (.int .i64 om.m.c.ex) (.bool om.m.a.neg) (.slice om.X3 om.m.a.ls.length om.c3) (.int .i64 om.m.a.ex)⟩
  case rest =>
  obtain ⟨Ao, co, gm, om, rfl, rfl, em, hW, hum, hkm, hb⟩ := hcut.out
  clear SS hT1 hT2
  have gem := Lib.hid em
  have rW := Lib.hid hW
  have um := Lib.hid hum
  have km := Lib.hid hkm
  clear em hW hum hkm hcut
  have swc : w2.heap.size ≤ wc.heap.size := hb.size
  replace kg := Lib.hid (kg.out.below hb kg.out.lt)
  replace r1 := Lib.hid (Recs.more (Recs.below r1.out hb) hb.size)
  replace ug := Lib.hid (RdO.below ug.out hb)
  replace gT := Lib.hid (Tab.below gT.out hb gT.out.2)
  replace gB := Lib.hid (gB.out.trans (hb.mono gB.out.size))
  clear hb
  have gW := Lib.hid (Below.refl wc.heap.size wc)
  have rW0 := rW
  have r10 := r1
  have um0 := um
  have ug0' := ug
  have gBc := gB
  have gtm := Lib.hid km.out.lt
  have gtg := Lib.hid kg.out.lt
  obtain ⟨E, hE⟩ : ∃ E, bkE l N y g.m = E := ⟨_, rfl⟩
  have gE := Lib.hid hE
  clear hE
  obtain ⟨la, hla⟩ : ∃ la, bkL l N y g.m = la := ⟨_, rfl⟩
  have gla := Lib.hid hla
  clear hla
  obtain ⟨na, hna⟩ : ∃ na, la.length = na := ⟨_, rfl⟩
  have gna := Lib.hid hna
  clear hna
  have gsa : Hid (∀ x ∈ la, smM x.give) := Lib.hid (by rw [← gla.out]; exact bkL_sm gs.out gsm.out)
  have hna83 : na ≤ 8310 := by rw [← gna.out, ← gla.out]; have h1 := @bkL_len l N y g.m; have h2 := gln.out; omega
  obtain ⟨FS, hF⟩ : ∃ F, lsE (askL l N 1) (sumE l N) = F := ⟨_, rfl⟩
  obtain ⟨MS, hM⟩ : ∃ M, lsM (askL l N 1) (sumE l N) = M := ⟨_, rfl⟩
  have gsS : Hid (smM MS) := Lib.hid (by rw [← hM]; unfold sumE; exact okM_lsM)
  have gFS := Lib.hid (And.intro hF hM)
  clear hF hM
  obtain ⟨FO, hF⟩ : ∃ F, lsE (askL l N y) (ofE l N y) = F := ⟨_, rfl⟩
  obtain ⟨MO, hM⟩ : ∃ M, lsM (askL l N y) (ofE l N y) = M := ⟨_, rfl⟩
  have gsO : Hid (smM MO) := Lib.hid (by rw [← hM]; unfold ofE; exact okM_lsM)
  have gFO := Lib.hid (And.intro hF hM)
  clear hF hM
  obtain ⟨CC, hCC⟩ : ∃ b, (if askL l N 1 = 0 then clnL l N else false) = b := ⟨_, rfl⟩
  have gCC := Lib.hid hCC
  obtain ⟨CE, hCE⟩ : ∃ E, askL l N 1 = E := ⟨_, rfl⟩
  have gCE := Lib.hid hCE
  obtain ⟨KE, hKE⟩ : ∃ E, chkL l = E := ⟨_, rfl⟩
  have gKE := Lib.hid hKE
  clear hCC hCE hKE
  have z0 : wc.cell? ⟨gm, 0, none⟩ = some (.bool om.m.s.neg) := by rw [km.out.cell]; rfl
  have z1 : wc.cell? ⟨gm, 1, none⟩ = some (.slice om.X0 om.m.s.ls.length om.c0) := by rw [km.out.cell]; rfl
  have z2 : wc.cell? ⟨gm, 2, none⟩ = some (.int .i64 om.m.s.ex) := by rw [km.out.cell]; rfl
  have z3 : wc.cell? ⟨gm, 3, none⟩ = some (.bool om.m.w.neg) := by rw [km.out.cell]; rfl
  have z4 : wc.cell? ⟨gm, 4, none⟩ = some (.slice om.X1 om.m.w.ls.length om.c1) := by rw [km.out.cell]; rfl
  have z5 : wc.cell? ⟨gm, 5, none⟩ = some (.int .i64 om.m.w.ex) := by rw [km.out.cell]; rfl
  have z6 : wc.cell? ⟨gm, 6, none⟩ = some (.bool om.m.c.neg) := by rw [km.out.cell]; rfl
  have z7 : wc.cell? ⟨gm, 7, none⟩ = some (.slice om.X2 om.m.c.ls.length om.c2) := by rw [km.out.cell]; rfl
  have z8 : wc.cell? ⟨gm, 8, none⟩ = some (.int .i64 om.m.c.ex) := by rw [km.out.cell]; rfl
  have z9 : wc.cell? ⟨gm, 9, none⟩ = some (.bool om.m.a.neg) := by rw [km.out.cell]; rfl
  have z10 : wc.cell? ⟨gm, 10, none⟩ = some (.slice om.X3 om.m.a.ls.length om.c3) := by rw [km.out.cell]; rfl
  have z11 : wc.cell? ⟨gm, 11, none⟩ = some (.int .i64 om.m.a.ex) := by rw [km.out.cell]; rfl
  go_wp2_with fail
  refine (book_any Ao n co l hn83 gs.out wc rW.out N y om.m (by rw [gem.out]; exact gsm.out) om.X0 om.c0 om.X1 om.c1 om.X2 om.c2 om.X3 om.c3 um.out).mono ?_
  rintro en x3 hP
  rw [gem.out] at hP
  obtain ⟨Aa, ca, rfl, hT2⟩ := book_is hP gE.out gla.out
  clear hP
  rw [gna.out] at hT2 ⊢
  have hb := hT2.2.2.2.1
  have ra : Hid (Ens x3 x3.heap.size Aa na la) := Lib.hid hT2.2.1
  have wra : Hid (Wr x3 (fun g => wc.heap.size ≤ g ∧ g < x3.heap.size) 53 14 Aa na (la.map fdsE)) := Lib.hid hT2.2.2.1
  clear hT2
  replace gW := Lib.hid (gW.out.trans (hb.mono gW.out.size))
  have sx3 : wc.heap.size ≤ x3.heap.size := hb.size
  replace kg := Lib.hid (kg.out.below hb kg.out.lt)
  replace r1 := Lib.hid (Recs.more (Recs.below r1.out hb) hb.size)
  replace ug := Lib.hid (RdO.below ug.out hb)
  replace gT := Lib.hid (Tab.below gT.out hb gT.out.2)
  replace rW := Lib.hid (Recs.more (Recs.below rW.out hb) hb.size)
  replace um := Lib.hid (RdO.below um.out hb)
  replace km := Lib.hid (km.out.below hb km.out.lt)
  replace gB := Lib.hid (gB.out.trans (hb.mono gB.out.size))
  clear hb
  clear z0 z1 z2 z3 z4 z5 z6 z7 z8 z9 z10 z11
  have z0 : x3.cell? ⟨w.heap.size, 0, none⟩ = some (.bool g.m.s.neg) := by rw [kg.out.cell]; rfl
  have z1 : x3.cell? ⟨w.heap.size, 1, none⟩ = some (.slice g.X0 g.m.s.ls.length g.c0) := by rw [kg.out.cell]; rfl
  have z2 : x3.cell? ⟨w.heap.size, 2, none⟩ = some (.int .i64 g.m.s.ex) := by rw [kg.out.cell]; rfl
  have z3 : x3.cell? ⟨w.heap.size, 3, none⟩ = some (.bool g.m.w.neg) := by rw [kg.out.cell]; rfl
  have z4 : x3.cell? ⟨w.heap.size, 4, none⟩ = some (.slice g.X1 g.m.w.ls.length g.c1) := by rw [kg.out.cell]; rfl
  have z5 : x3.cell? ⟨w.heap.size, 5, none⟩ = some (.int .i64 g.m.w.ex) := by rw [kg.out.cell]; rfl
  have z6 : x3.cell? ⟨w.heap.size, 6, none⟩ = some (.bool g.m.c.neg) := by rw [kg.out.cell]; rfl
  have z7 : x3.cell? ⟨w.heap.size, 7, none⟩ = some (.slice g.X2 g.m.c.ls.length g.c2) := by rw [kg.out.cell]; rfl
  have z8 : x3.cell? ⟨w.heap.size, 8, none⟩ = some (.int .i64 g.m.c.ex) := by rw [kg.out.cell]; rfl
  have z9 : x3.cell? ⟨w.heap.size, 9, none⟩ = some (.bool g.m.a.neg) := by rw [kg.out.cell]; rfl
  have z10 : x3.cell? ⟨w.heap.size, 10, none⟩ = some (.slice g.X3 g.m.a.ls.length g.c3) := by rw [kg.out.cell]; rfl
  have z11 : x3.cell? ⟨w.heap.size, 11, none⟩ = some (.int .i64 g.m.a.ex) := by rw [kg.out.cell]; rfl
  go_wp2_with fail
  refine (rbook_any A n c l hn83 gs.out x3 r1.out N y g gsm.out ug.out).mono ?_
  rintro en x4 hP
  obtain ⟨Ab, cb, rfl, hT2⟩ := book_is hP gE.out gla.out
  clear hP
  rw [gna.out] at hT2 ⊢
  have hb := hT2.2.2.2.1
  have rb : Hid (Ens x4 x4.heap.size Ab na la) := Lib.hid hT2.2.1
  clear hT2
  replace gW := Lib.hid (gW.out.trans (hb.mono gW.out.size))
  replace wra := Lib.hid (wra.out.below hb)
  have sx4 : x3.heap.size ≤ x4.heap.size := hb.size
  replace kg := Lib.hid (kg.out.below hb kg.out.lt)
  replace r1 := Lib.hid (Recs.more (Recs.below r1.out hb) hb.size)
  replace ug := Lib.hid (RdO.below ug.out hb)
  replace gT := Lib.hid (Tab.below gT.out hb gT.out.2)
  replace rW := Lib.hid (Recs.more (Recs.below rW.out hb) hb.size)
  replace um := Lib.hid (RdO.below um.out hb)
  replace km := Lib.hid (km.out.below hb km.out.lt)
  replace ra := Lib.hid (Recs.more (Recs.below ra.out hb) hb.size)
  replace gB := Lib.hid (gB.out.trans (hb.mono gB.out.size))
  clear hb
  clear z0 z1 z2 z3 z4 z5 z6 z7 z8 z9 z10 z11
  go_wp2_with fail
  refine (lsumS_any Ao n co l hn83 x4 rW.out hl N gT.out).mono ?_
  rintro en x5 hP
  have hq := lsum_one hP
  rw [gFS.out.1, gFS.out.2] at hq
  obtain ⟨x, ex, rfl, ox, hb⟩ := hq
  clear hP
  replace ex := Lib.hid ex
  have ux := Lib.hid ox.rd
  have wmx := Lib.hid (wrM_own ox)
  clear ox
  replace gW := Lib.hid (gW.out.trans (hb.mono gW.out.size))
  replace wra := Lib.hid (wra.out.below hb)
  have sx5 : x4.heap.size ≤ x5.heap.size := hb.size
  replace kg := Lib.hid (kg.out.below hb kg.out.lt)
  replace r1 := Lib.hid (Recs.more (Recs.below r1.out hb) hb.size)
  replace ug := Lib.hid (RdO.below ug.out hb)
  replace gT := Lib.hid (Tab.below gT.out hb gT.out.2)
  replace rW := Lib.hid (Recs.more (Recs.below rW.out hb) hb.size)
  replace um := Lib.hid (RdO.below um.out hb)
  replace km := Lib.hid (km.out.below hb km.out.lt)
  replace ra := Lib.hid (Recs.more (Recs.below ra.out hb) hb.size)
  replace rb := Lib.hid (Recs.more (Recs.below rb.out hb) hb.size)
  replace gB := Lib.hid (gB.out.trans (hb.mono gB.out.size))
  clear hb
  obtain ⟨tx, ht⟩ : ∃ t, t = x5.heap.size := ⟨_, rfl⟩
  obtain ⟨y5x, hy5x⟩ : ∃ W, W = x5.alloc (.cells #[.bool x.m.s.neg, .slice x.X0 x.m.s.ls.length x.c0, .int .i64 x.m.s.ex, .bool x.m.w.neg, .slice x.X1 x.m.w.ls.length x.c1, .int .i64 x.m.w.ex, .bool x.m.c.neg, .slice x.X2 x.m.c.ls.length x.c2, .int .i64 x.m.c.ex, .bool x.m.a.neg, .slice x.X3 x.m.a.ls.length x.c3, .int .i64 x.m.a.ex] 27) := ⟨_, rfl⟩
  have hb : Below x5.heap.size x5 y5x := by rw [hy5x]; exact (Below.refl _ _).alloc (Nat.le_refl _) _
  have kx : Blk y5x x5.heap.size 27 #[.bool x.m.s.neg, .slice x.X0 x.m.s.ls.length x.c0, .int .i64 x.m.s.ex, .bool x.m.w.neg, .slice x.X1 x.m.w.ls.length x.c1, .int .i64 x.m.w.ex, .bool x.m.c.neg, .slice x.X2 x.m.c.ls.length x.c2, .int .i64 x.m.c.ex, .bool x.m.a.neg, .slice x.X3 x.m.a.ls.length x.c3, .int .i64 x.m.a.ex] := by rw [hy5x]; exact Blk.new _ _ _
  rw [← ht] at kx
  replace kx := Lib.hid kx
  have gtx : Hid (x5.heap.size ≤ tx) := Lib.hid (by rw [ht]; exact Nat.le_refl _)
  replace gW := Lib.hid (gW.out.trans (hb.mono gW.out.size))
  replace wra := Lib.hid (wra.out.below hb)
  replace wmx := Lib.hid (wmx.out.below hb)
  have sy5x : x5.heap.size ≤ y5x.heap.size := hb.size
  replace kg := Lib.hid (kg.out.below hb kg.out.lt)
  replace r1 := Lib.hid (Recs.more (Recs.below r1.out hb) hb.size)
  replace ug := Lib.hid (RdO.below ug.out hb)
  replace gT := Lib.hid (Tab.below gT.out hb gT.out.2)
  replace rW := Lib.hid (Recs.more (Recs.below rW.out hb) hb.size)
  replace um := Lib.hid (RdO.below um.out hb)
  replace km := Lib.hid (km.out.below hb km.out.lt)
  replace ra := Lib.hid (Recs.more (Recs.below ra.out hb) hb.size)
  replace rb := Lib.hid (Recs.more (Recs.below rb.out hb) hb.size)
  replace ux := Lib.hid (RdO.below ux.out hb)
  replace gB := Lib.hid (gB.out.trans (hb.mono gB.out.size))
  clear hb
  go_wp2_with fail
  rw [← hy5x]
  clear hy5x
  rw [← ht]
  clear ht
  refine (rsumS_any A n c l hn83 y5x r1.out hl N).mono ?_
  rintro en x6 hP
  unfold RsumP at hP
  rw [gFS.out.1, gFS.out.2] at hP
  obtain ⟨x2, ex2, rfl, ux2, hb⟩ := hP
  replace ex2 := Lib.hid ex2
  replace ux2 := Lib.hid ux2
  replace gW := Lib.hid (gW.out.trans (hb.mono gW.out.size))
  replace wra := Lib.hid (wra.out.below hb)
  replace wmx := Lib.hid (wmx.out.below hb)
  have sx6 : y5x.heap.size ≤ x6.heap.size := hb.size
  replace kg := Lib.hid (kg.out.below hb kg.out.lt)
  replace r1 := Lib.hid (Recs.more (Recs.below r1.out hb) hb.size)
  replace ug := Lib.hid (RdO.below ug.out hb)
  replace gT := Lib.hid (Tab.below gT.out hb gT.out.2)
  replace rW := Lib.hid (Recs.more (Recs.below rW.out hb) hb.size)
  replace um := Lib.hid (RdO.below um.out hb)
  replace km := Lib.hid (km.out.below hb km.out.lt)
  replace ra := Lib.hid (Recs.more (Recs.below ra.out hb) hb.size)
  replace rb := Lib.hid (Recs.more (Recs.below rb.out hb) hb.size)
  replace ux := Lib.hid (RdO.below ux.out hb)
  replace kx := Lib.hid (kx.out.below hb kx.out.lt)
  replace gB := Lib.hid (gB.out.trans (hb.mono gB.out.size))
  clear hb
  obtain ⟨tx2, ht⟩ : ∃ t, t = x6.heap.size := ⟨_, rfl⟩
  obtain ⟨y6x2, hy6x2⟩ : ∃ W, W = x6.alloc (.cells #[.bool x2.m.s.neg, .slice x2.X0 x2.m.s.ls.length x2.c0, .int .i64 x2.m.s.ex, .bool x2.m.w.neg, .slice x2.X1 x2.m.w.ls.length x2.c1, .int .i64 x2.m.w.ex, .bool x2.m.c.neg, .slice x2.X2 x2.m.c.ls.length x2.c2, .int .i64 x2.m.c.ex, .bool x2.m.a.neg, .slice x2.X3 x2.m.a.ls.length x2.c3, .int .i64 x2.m.a.ex] 27) := ⟨_, rfl⟩
  have hb : Below x6.heap.size x6 y6x2 := by rw [hy6x2]; exact (Below.refl _ _).alloc (Nat.le_refl _) _
  have kx2 : Blk y6x2 x6.heap.size 27 #[.bool x2.m.s.neg, .slice x2.X0 x2.m.s.ls.length x2.c0, .int .i64 x2.m.s.ex, .bool x2.m.w.neg, .slice x2.X1 x2.m.w.ls.length x2.c1, .int .i64 x2.m.w.ex, .bool x2.m.c.neg, .slice x2.X2 x2.m.c.ls.length x2.c2, .int .i64 x2.m.c.ex, .bool x2.m.a.neg, .slice x2.X3 x2.m.a.ls.length x2.c3, .int .i64 x2.m.a.ex] := by rw [hy6x2]; exact Blk.new _ _ _
  rw [← ht] at kx2
  replace kx2 := Lib.hid kx2
  replace gW := Lib.hid (gW.out.trans (hb.mono gW.out.size))
  replace wra := Lib.hid (wra.out.below hb)
  replace wmx := Lib.hid (wmx.out.below hb)
  have sy6x2 : x6.heap.size ≤ y6x2.heap.size := hb.size
  replace kg := Lib.hid (kg.out.below hb kg.out.lt)
  replace r1 := Lib.hid (Recs.more (Recs.below r1.out hb) hb.size)
  replace ug := Lib.hid (RdO.below ug.out hb)
  replace gT := Lib.hid (Tab.below gT.out hb gT.out.2)
  replace rW := Lib.hid (Recs.more (Recs.below rW.out hb) hb.size)
  replace um := Lib.hid (RdO.below um.out hb)
  replace km := Lib.hid (km.out.below hb km.out.lt)
  replace ra := Lib.hid (Recs.more (Recs.below ra.out hb) hb.size)
  replace rb := Lib.hid (Recs.more (Recs.below rb.out hb) hb.size)
  replace ux := Lib.hid (RdO.below ux.out hb)
  replace kx := Lib.hid (kx.out.below hb kx.out.lt)
  replace ux2 := Lib.hid (RdO.below ux2.out hb)
  replace gB := Lib.hid (gB.out.trans (hb.mono gB.out.size))
  clear hb
  go_wp2_with fail
  rw [← hy6x2]
  clear hy6x2
  rw [← ht]
  clear ht
  refine (lsumO_any Ao n co l hn83 y6x2 rW.out hl N y gT.out).mono ?_
  rintro en x7 hP
  have hq := lsum_one hP
  rw [gFO.out.1, gFO.out.2] at hq
  obtain ⟨p, ep, rfl, op, hb⟩ := hq
  clear hP
  replace ep := Lib.hid ep
  have up := Lib.hid op.rd
  have wmp := Lib.hid (wrM_own op)
  clear op
  replace gW := Lib.hid (gW.out.trans (hb.mono gW.out.size))
  replace wra := Lib.hid (wra.out.below hb)
  replace wmx := Lib.hid (wmx.out.below hb)
  have sx7 : y6x2.heap.size ≤ x7.heap.size := hb.size
  replace kg := Lib.hid (kg.out.below hb kg.out.lt)
  replace r1 := Lib.hid (Recs.more (Recs.below r1.out hb) hb.size)
  replace ug := Lib.hid (RdO.below ug.out hb)
  replace gT := Lib.hid (Tab.below gT.out hb gT.out.2)
  replace rW := Lib.hid (Recs.more (Recs.below rW.out hb) hb.size)
  replace um := Lib.hid (RdO.below um.out hb)
  replace km := Lib.hid (km.out.below hb km.out.lt)
  replace ra := Lib.hid (Recs.more (Recs.below ra.out hb) hb.size)
  replace rb := Lib.hid (Recs.more (Recs.below rb.out hb) hb.size)
  replace ux := Lib.hid (RdO.below ux.out hb)
  replace kx := Lib.hid (kx.out.below hb kx.out.lt)
  replace ux2 := Lib.hid (RdO.below ux2.out hb)
  replace kx2 := Lib.hid (kx2.out.below hb kx2.out.lt)
  replace gB := Lib.hid (gB.out.trans (hb.mono gB.out.size))
  clear hb
  obtain ⟨tp, ht⟩ : ∃ t, t = x7.heap.size := ⟨_, rfl⟩
  obtain ⟨y7p, hy7p⟩ : ∃ W, W = x7.alloc (.cells #[.bool p.m.s.neg, .slice p.X0 p.m.s.ls.length p.c0, .int .i64 p.m.s.ex, .bool p.m.w.neg, .slice p.X1 p.m.w.ls.length p.c1, .int .i64 p.m.w.ex, .bool p.m.c.neg, .slice p.X2 p.m.c.ls.length p.c2, .int .i64 p.m.c.ex, .bool p.m.a.neg, .slice p.X3 p.m.a.ls.length p.c3, .int .i64 p.m.a.ex] 27) := ⟨_, rfl⟩
  have hb : Below x7.heap.size x7 y7p := by rw [hy7p]; exact (Below.refl _ _).alloc (Nat.le_refl _) _
  have kp : Blk y7p x7.heap.size 27 #[.bool p.m.s.neg, .slice p.X0 p.m.s.ls.length p.c0, .int .i64 p.m.s.ex, .bool p.m.w.neg, .slice p.X1 p.m.w.ls.length p.c1, .int .i64 p.m.w.ex, .bool p.m.c.neg, .slice p.X2 p.m.c.ls.length p.c2, .int .i64 p.m.c.ex, .bool p.m.a.neg, .slice p.X3 p.m.a.ls.length p.c3, .int .i64 p.m.a.ex] := by rw [hy7p]; exact Blk.new _ _ _
  rw [← ht] at kp
  replace kp := Lib.hid kp
  have gtp : Hid (x7.heap.size ≤ tp) := Lib.hid (by rw [ht]; exact Nat.le_refl _)
  replace gW := Lib.hid (gW.out.trans (hb.mono gW.out.size))
  replace wra := Lib.hid (wra.out.below hb)
  replace wmx := Lib.hid (wmx.out.below hb)
  replace wmp := Lib.hid (wmp.out.below hb)
  have sy7p : x7.heap.size ≤ y7p.heap.size := hb.size
  replace kg := Lib.hid (kg.out.below hb kg.out.lt)
  replace r1 := Lib.hid (Recs.more (Recs.below r1.out hb) hb.size)
  replace ug := Lib.hid (RdO.below ug.out hb)
  replace gT := Lib.hid (Tab.below gT.out hb gT.out.2)
  replace rW := Lib.hid (Recs.more (Recs.below rW.out hb) hb.size)
  replace um := Lib.hid (RdO.below um.out hb)
  replace km := Lib.hid (km.out.below hb km.out.lt)
  replace ra := Lib.hid (Recs.more (Recs.below ra.out hb) hb.size)
  replace rb := Lib.hid (Recs.more (Recs.below rb.out hb) hb.size)
  replace ux := Lib.hid (RdO.below ux.out hb)
  replace kx := Lib.hid (kx.out.below hb kx.out.lt)
  replace ux2 := Lib.hid (RdO.below ux2.out hb)
  replace kx2 := Lib.hid (kx2.out.below hb kx2.out.lt)
  replace up := Lib.hid (RdO.below up.out hb)
  replace gB := Lib.hid (gB.out.trans (hb.mono gB.out.size))
  clear hb
  go_wp2_with fail
  rw [← hy7p]
  clear hy7p
  rw [← ht]
  clear ht
  refine (rsumO_any A n c l hn83 y7p r1.out hl N y).mono ?_
  rintro en x8 hP
  unfold RsumP at hP
  rw [gFO.out.1, gFO.out.2] at hP
  obtain ⟨p2, ep2, rfl, up2, hb⟩ := hP
  replace ep2 := Lib.hid ep2
  replace up2 := Lib.hid up2
  replace gW := Lib.hid (gW.out.trans (hb.mono gW.out.size))
  replace wra := Lib.hid (wra.out.below hb)
  replace wmx := Lib.hid (wmx.out.below hb)
  replace wmp := Lib.hid (wmp.out.below hb)
  have sx8 : y7p.heap.size ≤ x8.heap.size := hb.size
  replace kg := Lib.hid (kg.out.below hb kg.out.lt)
  replace r1 := Lib.hid (Recs.more (Recs.below r1.out hb) hb.size)
  replace ug := Lib.hid (RdO.below ug.out hb)
  replace gT := Lib.hid (Tab.below gT.out hb gT.out.2)
  replace rW := Lib.hid (Recs.more (Recs.below rW.out hb) hb.size)
  replace um := Lib.hid (RdO.below um.out hb)
  replace km := Lib.hid (km.out.below hb km.out.lt)
  replace ra := Lib.hid (Recs.more (Recs.below ra.out hb) hb.size)
  replace rb := Lib.hid (Recs.more (Recs.below rb.out hb) hb.size)
  replace ux := Lib.hid (RdO.below ux.out hb)
  replace kx := Lib.hid (kx.out.below hb kx.out.lt)
  replace ux2 := Lib.hid (RdO.below ux2.out hb)
  replace kx2 := Lib.hid (kx2.out.below hb kx2.out.lt)
  replace up := Lib.hid (RdO.below up.out hb)
  replace kp := Lib.hid (kp.out.below hb kp.out.lt)
  replace gB := Lib.hid (gB.out.trans (hb.mono gB.out.size))
  clear hb
  obtain ⟨tp2, ht⟩ : ∃ t, t = x8.heap.size := ⟨_, rfl⟩
  obtain ⟨y8p2, hy8p2⟩ : ∃ W, W = x8.alloc (.cells #[.bool p2.m.s.neg, .slice p2.X0 p2.m.s.ls.length p2.c0, .int .i64 p2.m.s.ex, .bool p2.m.w.neg, .slice p2.X1 p2.m.w.ls.length p2.c1, .int .i64 p2.m.w.ex, .bool p2.m.c.neg, .slice p2.X2 p2.m.c.ls.length p2.c2, .int .i64 p2.m.c.ex, .bool p2.m.a.neg, .slice p2.X3 p2.m.a.ls.length p2.c3, .int .i64 p2.m.a.ex] 27) := ⟨_, rfl⟩
  have hb : Below x8.heap.size x8 y8p2 := by rw [hy8p2]; exact (Below.refl _ _).alloc (Nat.le_refl _) _
  have kp2 : Blk y8p2 x8.heap.size 27 #[.bool p2.m.s.neg, .slice p2.X0 p2.m.s.ls.length p2.c0, .int .i64 p2.m.s.ex, .bool p2.m.w.neg, .slice p2.X1 p2.m.w.ls.length p2.c1, .int .i64 p2.m.w.ex, .bool p2.m.c.neg, .slice p2.X2 p2.m.c.ls.length p2.c2, .int .i64 p2.m.c.ex, .bool p2.m.a.neg, .slice p2.X3 p2.m.a.ls.length p2.c3, .int .i64 p2.m.a.ex] := by rw [hy8p2]; exact Blk.new _ _ _
  rw [← ht] at kp2
  replace kp2 := Lib.hid kp2
  replace gW := Lib.hid (gW.out.trans (hb.mono gW.out.size))
  replace wra := Lib.hid (wra.out.below hb)
  replace wmx := Lib.hid (wmx.out.below hb)
  replace wmp := Lib.hid (wmp.out.below hb)
  have sy8p2 : x8.heap.size ≤ y8p2.heap.size := hb.size
  replace kg := Lib.hid (kg.out.below hb kg.out.lt)
  replace r1 := Lib.hid (Recs.more (Recs.below r1.out hb) hb.size)
  replace ug := Lib.hid (RdO.below ug.out hb)
  replace gT := Lib.hid (Tab.below gT.out hb gT.out.2)
  replace rW := Lib.hid (Recs.more (Recs.below rW.out hb) hb.size)
  replace um := Lib.hid (RdO.below um.out hb)
  replace km := Lib.hid (km.out.below hb km.out.lt)
  replace ra := Lib.hid (Recs.more (Recs.below ra.out hb) hb.size)
  replace rb := Lib.hid (Recs.more (Recs.below rb.out hb) hb.size)
  replace ux := Lib.hid (RdO.below ux.out hb)
  replace kx := Lib.hid (kx.out.below hb kx.out.lt)
  replace ux2 := Lib.hid (RdO.below ux2.out hb)
  replace kx2 := Lib.hid (kx2.out.below hb kx2.out.lt)
  replace up := Lib.hid (RdO.below up.out hb)
  replace kp := Lib.hid (kp.out.below hb kp.out.lt)
  replace up2 := Lib.hid (RdO.below up2.out hb)
  replace gB := Lib.hid (gB.out.trans (hb.mono gB.out.size))
  clear hb
  go_wp2_with fail
  rw [← hy8p2]
  clear hy8p2
  rw [← ht]
  clear ht
  refine (lclean_any Ao n co l hn83 y8p2 rW.out N).mono ?_
  rintro en x9 hP
  rw [gCC.out, gCE.out] at hP
  obtain ⟨rfl, hb⟩ := hP
  replace gW := Lib.hid (gW.out.trans (hb.mono gW.out.size))
  replace wra := Lib.hid (wra.out.below hb)
  replace wmx := Lib.hid (wmx.out.below hb)
  replace wmp := Lib.hid (wmp.out.below hb)
  have sx9 : y8p2.heap.size ≤ x9.heap.size := hb.size
  replace kg := Lib.hid (kg.out.below hb kg.out.lt)
  replace r1 := Lib.hid (Recs.more (Recs.below r1.out hb) hb.size)
  replace ug := Lib.hid (RdO.below ug.out hb)
  replace gT := Lib.hid (Tab.below gT.out hb gT.out.2)
  replace rW := Lib.hid (Recs.more (Recs.below rW.out hb) hb.size)
  replace um := Lib.hid (RdO.below um.out hb)
  replace km := Lib.hid (km.out.below hb km.out.lt)
  replace ra := Lib.hid (Recs.more (Recs.below ra.out hb) hb.size)
  replace rb := Lib.hid (Recs.more (Recs.below rb.out hb) hb.size)
  replace ux := Lib.hid (RdO.below ux.out hb)
  replace kx := Lib.hid (kx.out.below hb kx.out.lt)
  replace ux2 := Lib.hid (RdO.below ux2.out hb)
  replace kx2 := Lib.hid (kx2.out.below hb kx2.out.lt)
  replace up := Lib.hid (RdO.below up.out hb)
  replace kp := Lib.hid (kp.out.below hb kp.out.lt)
  replace up2 := Lib.hid (RdO.below up2.out hb)
  replace kp2 := Lib.hid (kp2.out.below hb kp2.out.lt)
  replace gB := Lib.hid (gB.out.trans (hb.mono gB.out.size))
  clear hb
  go_wp2_with fail
  refine (rclean_any A n c l hn83 x9 r1.out N).mono ?_
  rintro en x10 hP
  rw [gCC.out, gCE.out] at hP
  obtain ⟨rfl, hb⟩ := hP
  replace gW := Lib.hid (gW.out.trans (hb.mono gW.out.size))
  replace wra := Lib.hid (wra.out.below hb)
  replace wmx := Lib.hid (wmx.out.below hb)
  replace wmp := Lib.hid (wmp.out.below hb)
  have sx10 : x9.heap.size ≤ x10.heap.size := hb.size
  replace kg := Lib.hid (kg.out.below hb kg.out.lt)
  replace r1 := Lib.hid (Recs.more (Recs.below r1.out hb) hb.size)
  replace ug := Lib.hid (RdO.below ug.out hb)
  replace gT := Lib.hid (Tab.below gT.out hb gT.out.2)
  replace rW := Lib.hid (Recs.more (Recs.below rW.out hb) hb.size)
  replace um := Lib.hid (RdO.below um.out hb)
  replace km := Lib.hid (km.out.below hb km.out.lt)
  replace ra := Lib.hid (Recs.more (Recs.below ra.out hb) hb.size)
  replace rb := Lib.hid (Recs.more (Recs.below rb.out hb) hb.size)
  replace ux := Lib.hid (RdO.below ux.out hb)
  replace kx := Lib.hid (kx.out.below hb kx.out.lt)
  replace ux2 := Lib.hid (RdO.below ux2.out hb)
  replace kx2 := Lib.hid (kx2.out.below hb kx2.out.lt)
  replace up := Lib.hid (RdO.below up.out hb)
  replace kp := Lib.hid (kp.out.below hb kp.out.lt)
  replace up2 := Lib.hid (RdO.below up2.out hb)
  replace kp2 := Lib.hid (kp2.out.below hb kp2.out.lt)
  replace gB := Lib.hid (gB.out.trans (hb.mono gB.out.size))
  clear hb
  have t1 : (E == E) = true := by simp
  have t2 : (FS == FS) = true := by simp
  have t3 : (FO == FO) = true := by simp
  have t4 : (CC == CC) = true := by simp
  have t5 : (CE == CE) = true := by simp
  have t6 : (KE == KE) = true := by simp
  go_wp2_with fail
  refine (resame_any Aa Ab na na ca cb la la (by omega) (by omega) gsa.out gsa.out true (decide_eq_true rfl) x10 ra.out rb.out).mono ?_
  rintro en x11 ⟨rfl, hb⟩
  replace gW := Lib.hid (gW.out.trans (hb.mono gW.out.size))
  replace wra := Lib.hid (wra.out.below hb)
  replace wmx := Lib.hid (wmx.out.below hb)
  replace wmp := Lib.hid (wmp.out.below hb)
  have sx11 : x10.heap.size ≤ x11.heap.size := hb.size
  replace kg := Lib.hid (kg.out.below hb kg.out.lt)
  replace r1 := Lib.hid (Recs.more (Recs.below r1.out hb) hb.size)
  replace ug := Lib.hid (RdO.below ug.out hb)
  replace gT := Lib.hid (Tab.below gT.out hb gT.out.2)
  replace rW := Lib.hid (Recs.more (Recs.below rW.out hb) hb.size)
  replace um := Lib.hid (RdO.below um.out hb)
  replace km := Lib.hid (km.out.below hb km.out.lt)
  replace ra := Lib.hid (Recs.more (Recs.below ra.out hb) hb.size)
  replace rb := Lib.hid (Recs.more (Recs.below rb.out hb) hb.size)
  replace ux := Lib.hid (RdO.below ux.out hb)
  replace kx := Lib.hid (kx.out.below hb kx.out.lt)
  replace ux2 := Lib.hid (RdO.below ux2.out hb)
  replace kx2 := Lib.hid (kx2.out.below hb kx2.out.lt)
  replace up := Lib.hid (RdO.below up.out hb)
  replace kp := Lib.hid (kp.out.below hb kp.out.lt)
  replace up2 := Lib.hid (RdO.below up2.out hb)
  replace kp2 := Lib.hid (kp2.out.below hb kp2.out.lt)
  replace gB := Lib.hid (gB.out.trans (hb.mono gB.out.size))
  clear hb
  have z0 : x11.cell? ⟨tx, 0, none⟩ = some (.bool x.m.s.neg) := by rw [kx.out.cell]; rfl
  have z1 : x11.cell? ⟨tx, 1, none⟩ = some (.slice x.X0 x.m.s.ls.length x.c0) := by rw [kx.out.cell]; rfl
  have z2 : x11.cell? ⟨tx, 2, none⟩ = some (.int .i64 x.m.s.ex) := by rw [kx.out.cell]; rfl
  have z3 : x11.cell? ⟨tx, 3, none⟩ = some (.bool x.m.w.neg) := by rw [kx.out.cell]; rfl
  have z4 : x11.cell? ⟨tx, 4, none⟩ = some (.slice x.X1 x.m.w.ls.length x.c1) := by rw [kx.out.cell]; rfl
  have z5 : x11.cell? ⟨tx, 5, none⟩ = some (.int .i64 x.m.w.ex) := by rw [kx.out.cell]; rfl
  have z6 : x11.cell? ⟨tx, 6, none⟩ = some (.bool x.m.c.neg) := by rw [kx.out.cell]; rfl
  have z7 : x11.cell? ⟨tx, 7, none⟩ = some (.slice x.X2 x.m.c.ls.length x.c2) := by rw [kx.out.cell]; rfl
  have z8 : x11.cell? ⟨tx, 8, none⟩ = some (.int .i64 x.m.c.ex) := by rw [kx.out.cell]; rfl
  have z9 : x11.cell? ⟨tx, 9, none⟩ = some (.bool x.m.a.neg) := by rw [kx.out.cell]; rfl
  have z10 : x11.cell? ⟨tx, 10, none⟩ = some (.slice x.X3 x.m.a.ls.length x.c3) := by rw [kx.out.cell]; rfl
  have z11 : x11.cell? ⟨tx, 11, none⟩ = some (.int .i64 x.m.a.ex) := by rw [kx.out.cell]; rfl
  have a0 : x11.cell? ⟨tx2, 0, none⟩ = some (.bool x2.m.s.neg) := by rw [kx2.out.cell]; rfl
  have a1 : x11.cell? ⟨tx2, 1, none⟩ = some (.slice x2.X0 x2.m.s.ls.length x2.c0) := by rw [kx2.out.cell]; rfl
  have a2 : x11.cell? ⟨tx2, 2, none⟩ = some (.int .i64 x2.m.s.ex) := by rw [kx2.out.cell]; rfl
  have a3 : x11.cell? ⟨tx2, 3, none⟩ = some (.bool x2.m.w.neg) := by rw [kx2.out.cell]; rfl
  have a4 : x11.cell? ⟨tx2, 4, none⟩ = some (.slice x2.X1 x2.m.w.ls.length x2.c1) := by rw [kx2.out.cell]; rfl
  have a5 : x11.cell? ⟨tx2, 5, none⟩ = some (.int .i64 x2.m.w.ex) := by rw [kx2.out.cell]; rfl
  have a6 : x11.cell? ⟨tx2, 6, none⟩ = some (.bool x2.m.c.neg) := by rw [kx2.out.cell]; rfl
  have a7 : x11.cell? ⟨tx2, 7, none⟩ = some (.slice x2.X2 x2.m.c.ls.length x2.c2) := by rw [kx2.out.cell]; rfl
  have a8 : x11.cell? ⟨tx2, 8, none⟩ = some (.int .i64 x2.m.c.ex) := by rw [kx2.out.cell]; rfl
  have a9 : x11.cell? ⟨tx2, 9, none⟩ = some (.bool x2.m.a.neg) := by rw [kx2.out.cell]; rfl
  have a10 : x11.cell? ⟨tx2, 10, none⟩ = some (.slice x2.X3 x2.m.a.ls.length x2.c3) := by rw [kx2.out.cell]; rfl
  have a11 : x11.cell? ⟨tx2, 11, none⟩ = some (.int .i64 x2.m.a.ex) := by rw [kx2.out.cell]; rfl
  go_wp2_with fail
  refine (rmsame_any x.m.s.neg x.X0 x.m.s.ls.length x.c0 x.m.s.ex x.m.w.neg x.X1 x.m.w.ls.length x.c1 x.m.w.ex x.m.c.neg x.X2 x.m.c.ls.length x.c2 x.m.c.ex x.m.a.neg x.X3 x.m.a.ls.length x.c3 x.m.a.ex x2.m.s.neg x2.X0 x2.m.s.ls.length x2.c0 x2.m.s.ex x2.m.w.neg x2.X1 x2.m.w.ls.length x2.c1 x2.m.w.ex x2.m.c.neg x2.X2 x2.m.c.ls.length x2.c2 x2.m.c.ex x2.m.a.neg x2.X3 x2.m.a.ls.length x2.c3 x2.m.a.ex x.m x2.m (by rw [ex.out]; exact gsS.out) (by rw [ex2.out]; exact gsS.out) x11 ux.out ux2.out true (decide_eq_true (by rw [ex.out, ex2.out]))).mono ?_
  rintro en x12 ⟨rfl, hb⟩
  replace gW := Lib.hid (gW.out.trans (hb.mono gW.out.size))
  replace wra := Lib.hid (wra.out.below hb)
  replace wmx := Lib.hid (wmx.out.below hb)
  replace wmp := Lib.hid (wmp.out.below hb)
  have sx12 : x11.heap.size ≤ x12.heap.size := hb.size
  replace kg := Lib.hid (kg.out.below hb kg.out.lt)
  replace r1 := Lib.hid (Recs.more (Recs.below r1.out hb) hb.size)
  replace ug := Lib.hid (RdO.below ug.out hb)
  replace gT := Lib.hid (Tab.below gT.out hb gT.out.2)
  replace rW := Lib.hid (Recs.more (Recs.below rW.out hb) hb.size)
  replace um := Lib.hid (RdO.below um.out hb)
  replace km := Lib.hid (km.out.below hb km.out.lt)
  replace ra := Lib.hid (Recs.more (Recs.below ra.out hb) hb.size)
  replace rb := Lib.hid (Recs.more (Recs.below rb.out hb) hb.size)
  replace ux := Lib.hid (RdO.below ux.out hb)
  replace kx := Lib.hid (kx.out.below hb kx.out.lt)
  replace ux2 := Lib.hid (RdO.below ux2.out hb)
  replace kx2 := Lib.hid (kx2.out.below hb kx2.out.lt)
  replace up := Lib.hid (RdO.below up.out hb)
  replace kp := Lib.hid (kp.out.below hb kp.out.lt)
  replace up2 := Lib.hid (RdO.below up2.out hb)
  replace kp2 := Lib.hid (kp2.out.below hb kp2.out.lt)
  replace gB := Lib.hid (gB.out.trans (hb.mono gB.out.size))
  clear hb
  clear z0 z1 z2 z3 z4 z5 z6 z7 z8 z9 z10 z11 a0 a1 a2 a3 a4 a5 a6 a7 a8 a9 a10 a11
  have z0 : x12.cell? ⟨tp, 0, none⟩ = some (.bool p.m.s.neg) := by rw [kp.out.cell]; rfl
  have z1 : x12.cell? ⟨tp, 1, none⟩ = some (.slice p.X0 p.m.s.ls.length p.c0) := by rw [kp.out.cell]; rfl
  have z2 : x12.cell? ⟨tp, 2, none⟩ = some (.int .i64 p.m.s.ex) := by rw [kp.out.cell]; rfl
  have z3 : x12.cell? ⟨tp, 3, none⟩ = some (.bool p.m.w.neg) := by rw [kp.out.cell]; rfl
  have z4 : x12.cell? ⟨tp, 4, none⟩ = some (.slice p.X1 p.m.w.ls.length p.c1) := by rw [kp.out.cell]; rfl
  have z5 : x12.cell? ⟨tp, 5, none⟩ = some (.int .i64 p.m.w.ex) := by rw [kp.out.cell]; rfl
  have z6 : x12.cell? ⟨tp, 6, none⟩ = some (.bool p.m.c.neg) := by rw [kp.out.cell]; rfl
  have z7 : x12.cell? ⟨tp, 7, none⟩ = some (.slice p.X2 p.m.c.ls.length p.c2) := by rw [kp.out.cell]; rfl
  have z8 : x12.cell? ⟨tp, 8, none⟩ = some (.int .i64 p.m.c.ex) := by rw [kp.out.cell]; rfl
  have z9 : x12.cell? ⟨tp, 9, none⟩ = some (.bool p.m.a.neg) := by rw [kp.out.cell]; rfl
  have z10 : x12.cell? ⟨tp, 10, none⟩ = some (.slice p.X3 p.m.a.ls.length p.c3) := by rw [kp.out.cell]; rfl
  have z11 : x12.cell? ⟨tp, 11, none⟩ = some (.int .i64 p.m.a.ex) := by rw [kp.out.cell]; rfl
  have a0 : x12.cell? ⟨tp2, 0, none⟩ = some (.bool p2.m.s.neg) := by rw [kp2.out.cell]; rfl
  have a1 : x12.cell? ⟨tp2, 1, none⟩ = some (.slice p2.X0 p2.m.s.ls.length p2.c0) := by rw [kp2.out.cell]; rfl
  have a2 : x12.cell? ⟨tp2, 2, none⟩ = some (.int .i64 p2.m.s.ex) := by rw [kp2.out.cell]; rfl
  have a3 : x12.cell? ⟨tp2, 3, none⟩ = some (.bool p2.m.w.neg) := by rw [kp2.out.cell]; rfl
  have a4 : x12.cell? ⟨tp2, 4, none⟩ = some (.slice p2.X1 p2.m.w.ls.length p2.c1) := by rw [kp2.out.cell]; rfl
  have a5 : x12.cell? ⟨tp2, 5, none⟩ = some (.int .i64 p2.m.w.ex) := by rw [kp2.out.cell]; rfl
  have a6 : x12.cell? ⟨tp2, 6, none⟩ = some (.bool p2.m.c.neg) := by rw [kp2.out.cell]; rfl
  have a7 : x12.cell? ⟨tp2, 7, none⟩ = some (.slice p2.X2 p2.m.c.ls.length p2.c2) := by rw [kp2.out.cell]; rfl
  have a8 : x12.cell? ⟨tp2, 8, none⟩ = some (.int .i64 p2.m.c.ex) := by rw [kp2.out.cell]; rfl
  have a9 : x12.cell? ⟨tp2, 9, none⟩ = some (.bool p2.m.a.neg) := by rw [kp2.out.cell]; rfl
  have a10 : x12.cell? ⟨tp2, 10, none⟩ = some (.slice p2.X3 p2.m.a.ls.length p2.c3) := by rw [kp2.out.cell]; rfl
  have a11 : x12.cell? ⟨tp2, 11, none⟩ = some (.int .i64 p2.m.a.ex) := by rw [kp2.out.cell]; rfl
  go_wp2_with fail
  refine (rmsame_any p.m.s.neg p.X0 p.m.s.ls.length p.c0 p.m.s.ex p.m.w.neg p.X1 p.m.w.ls.length p.c1 p.m.w.ex p.m.c.neg p.X2 p.m.c.ls.length p.c2 p.m.c.ex p.m.a.neg p.X3 p.m.a.ls.length p.c3 p.m.a.ex p2.m.s.neg p2.X0 p2.m.s.ls.length p2.c0 p2.m.s.ex p2.m.w.neg p2.X1 p2.m.w.ls.length p2.c1 p2.m.w.ex p2.m.c.neg p2.X2 p2.m.c.ls.length p2.c2 p2.m.c.ex p2.m.a.neg p2.X3 p2.m.a.ls.length p2.c3 p2.m.a.ex p.m p2.m (by rw [ep.out]; exact gsO.out) (by rw [ep2.out]; exact gsO.out) x12 up.out up2.out true (decide_eq_true (by rw [ep.out, ep2.out]))).mono ?_
  rintro en x13 ⟨rfl, hb⟩
  replace gW := Lib.hid (gW.out.trans (hb.mono gW.out.size))
  replace wra := Lib.hid (wra.out.below hb)
  replace wmx := Lib.hid (wmx.out.below hb)
  replace wmp := Lib.hid (wmp.out.below hb)
  have sx13 : x12.heap.size ≤ x13.heap.size := hb.size
  replace kg := Lib.hid (kg.out.below hb kg.out.lt)
  replace r1 := Lib.hid (Recs.more (Recs.below r1.out hb) hb.size)
  replace ug := Lib.hid (RdO.below ug.out hb)
  replace gT := Lib.hid (Tab.below gT.out hb gT.out.2)
  replace rW := Lib.hid (Recs.more (Recs.below rW.out hb) hb.size)
  replace um := Lib.hid (RdO.below um.out hb)
  replace km := Lib.hid (km.out.below hb km.out.lt)
  replace ra := Lib.hid (Recs.more (Recs.below ra.out hb) hb.size)
  replace rb := Lib.hid (Recs.more (Recs.below rb.out hb) hb.size)
  replace ux := Lib.hid (RdO.below ux.out hb)
  replace kx := Lib.hid (kx.out.below hb kx.out.lt)
  replace ux2 := Lib.hid (RdO.below ux2.out hb)
  replace kx2 := Lib.hid (kx2.out.below hb kx2.out.lt)
  replace up := Lib.hid (RdO.below up.out hb)
  replace kp := Lib.hid (kp.out.below hb kp.out.lt)
  replace up2 := Lib.hid (RdO.below up2.out hb)
  replace kp2 := Lib.hid (kp2.out.below hb kp2.out.lt)
  replace gB := Lib.hid (gB.out.trans (hb.mono gB.out.size))
  clear hb
  clear z0 z1 z2 z3 z4 z5 z6 z7 z8 z9 z10 z11 a0 a1 a2 a3 a4 a5 a6 a7 a8 a9 a10 a11
  go_wp2_with fail
  refine (lgcheck_any Ao n co l hn83 x13 rW.out).mono ?_
  rintro en x14 hP
  rw [gKE.out] at hP
  obtain ⟨rfl, hb⟩ := hP
  replace gW := Lib.hid (gW.out.trans (hb.mono gW.out.size))
  replace wra := Lib.hid (wra.out.below hb)
  replace wmx := Lib.hid (wmx.out.below hb)
  replace wmp := Lib.hid (wmp.out.below hb)
  have sx14 : x13.heap.size ≤ x14.heap.size := hb.size
  replace kg := Lib.hid (kg.out.below hb kg.out.lt)
  replace r1 := Lib.hid (Recs.more (Recs.below r1.out hb) hb.size)
  replace ug := Lib.hid (RdO.below ug.out hb)
  replace gT := Lib.hid (Tab.below gT.out hb gT.out.2)
  replace rW := Lib.hid (Recs.more (Recs.below rW.out hb) hb.size)
  replace um := Lib.hid (RdO.below um.out hb)
  replace km := Lib.hid (km.out.below hb km.out.lt)
  replace ra := Lib.hid (Recs.more (Recs.below ra.out hb) hb.size)
  replace rb := Lib.hid (Recs.more (Recs.below rb.out hb) hb.size)
  replace ux := Lib.hid (RdO.below ux.out hb)
  replace kx := Lib.hid (kx.out.below hb kx.out.lt)
  replace ux2 := Lib.hid (RdO.below ux2.out hb)
  replace kx2 := Lib.hid (kx2.out.below hb kx2.out.lt)
  replace up := Lib.hid (RdO.below up.out hb)
  replace kp := Lib.hid (kp.out.below hb kp.out.lt)
  replace up2 := Lib.hid (RdO.below up2.out hb)
  replace kp2 := Lib.hid (kp2.out.below hb kp2.out.lt)
  replace gB := Lib.hid (gB.out.trans (hb.mono gB.out.size))
  clear hb
  go_wp2_with fail
  refine (rgcheck_any A n c l hn83 x14 r1.out).mono ?_
  rintro en x15 hP
  rw [gKE.out] at hP
  obtain ⟨rfl, hb⟩ := hP
  replace gW := Lib.hid (gW.out.trans (hb.mono gW.out.size))
  replace wra := Lib.hid (wra.out.below hb)
  replace wmx := Lib.hid (wmx.out.below hb)
  replace wmp := Lib.hid (wmp.out.below hb)
  have sx15 : x14.heap.size ≤ x15.heap.size := hb.size
  replace kg := Lib.hid (kg.out.below hb kg.out.lt)
  replace r1 := Lib.hid (Recs.more (Recs.below r1.out hb) hb.size)
  replace ug := Lib.hid (RdO.below ug.out hb)
  replace gT := Lib.hid (Tab.below gT.out hb gT.out.2)
  replace rW := Lib.hid (Recs.more (Recs.below rW.out hb) hb.size)
  replace um := Lib.hid (RdO.below um.out hb)
  replace km := Lib.hid (km.out.below hb km.out.lt)
  replace ra := Lib.hid (Recs.more (Recs.below ra.out hb) hb.size)
  replace rb := Lib.hid (Recs.more (Recs.below rb.out hb) hb.size)
  replace ux := Lib.hid (RdO.below ux.out hb)
  replace kx := Lib.hid (kx.out.below hb kx.out.lt)
  replace ux2 := Lib.hid (RdO.below ux2.out hb)
  replace kx2 := Lib.hid (kx2.out.below hb kx2.out.lt)
  replace up := Lib.hid (RdO.below up.out hb)
  replace kp := Lib.hid (kp.out.below hb kp.out.lt)
  replace up2 := Lib.hid (RdO.below up2.out hb)
  replace kp2 := Lib.hid (kp2.out.below hb kp2.out.lt)
  replace gB := Lib.hid (gB.out.trans (hb.mono gB.out.size))
  clear hb
  clear rb ux2 up2 kx2 kp2
  have gUn : Hid (Un (fun g => wc.heap.size ≤ g ∧ g < x3.heap.size) x15 x15) := Lib.hid (Un.refl _ _)
  have sW : x3.heap.size ≤ x15.heap.size := by omega
  go_wp2
  go_loopw [28] (fun t wr => ∃ k : Nat, k ≤ na ∧ t = .int .i64 (k : Int) ∧ Hid (Wr wr (fun g => wc.heap.size ≤ g ∧ g < x3.heap.size) 53 14 Aa na (la.map fdsE)) ∧ Hid (Un (fun g => wc.heap.size ≤ g ∧ g < x3.heap.size) x15 wr)) (fun t _ => na - (intOf t).toNat)
  case atStart => exact ⟨0, Nat.zero_le _, rfl, wra, gUn⟩
  case round =>
    clear gUn wra
    obtain ⟨k, hk, rfl, gw, gU⟩ := hrel
    by_cases hlt : k < na
    · have hWr := gw.out
      obtain ⟨x0, hx⟩ : ∃ x0, la[k]? = some x0 := ⟨_, List.getElem?_eq_getElem (by have := gna.out; omega)⟩
      have hxr : (la.map fdsE)[k]? = some (fdsE x0) := by rw [List.getElem?_map, hx]; rfl
      have hsx := gsa.out x0 (List.mem_of_getElem? hx)
      obtain ⟨gq, cur, hA, hSg, hbk, hc⟩ := hWr.2 (by omega)
      subst hA
      obtain ⟨q0, v0, _⟩ := hc k _ hxr 0 _ rfl
      obtain ⟨q1, v1, _⟩ := hc k _ hxr 1 _ rfl
      obtain ⟨q2, v2, _⟩ := hc k _ hxr 2 _ rfl
      obtain ⟨_, v3, Y0, m0, d0, rfl, hn0, hw0⟩ := hc k _ hxr 3 _ rfl
      obtain ⟨q4, v4, _⟩ := hc k _ hxr 4 _ rfl
      obtain ⟨q5, v5, _⟩ := hc k _ hxr 5 _ rfl
      obtain ⟨_, v6, Y1, m1, d1, rfl, hn1, hw1⟩ := hc k _ hxr 6 _ rfl
      obtain ⟨q7, v7, _⟩ := hc k _ hxr 7 _ rfl
      obtain ⟨q8, v8, _⟩ := hc k _ hxr 8 _ rfl
      obtain ⟨_, v9, Y2, m2, d2, rfl, hn2, hw2⟩ := hc k _ hxr 9 _ rfl
      obtain ⟨q10, v10, _⟩ := hc k _ hxr 10 _ rfl
      obtain ⟨q11, v11, _⟩ := hc k _ hxr 11 _ rfl
      obtain ⟨_, v12, Y3, m3, d3, rfl, hn3, hw3⟩ := hc k _ hxr 12 _ rfl
      obtain ⟨q13, v13, _⟩ := hc k _ hxr 13 _ rfl
      have hp : (⟨gq, 0, none⟩ : Addr).add (k * 14) = ⟨gq, k * 14, none⟩ := by unfold Addr.add; split <;> simp_all
      have xc2 : wr.cell? ⟨gq, k * 14 + 2, none⟩ = some (q2) := (hbk.cell (k * 14 + 2)).trans v2
      have xc3 : wr.cell? ⟨gq, k * 14 + 2 + 1, none⟩ = some (.slice Y0 m0 d0) := (hbk.cell (k * 14 + 3)).trans v3
      have xc4 : wr.cell? ⟨gq, k * 14 + 2 + 2, none⟩ = some (q4) := (hbk.cell (k * 14 + 4)).trans v4
      have xc5 : wr.cell? ⟨gq, k * 14 + 2 + 3, none⟩ = some (q5) := (hbk.cell (k * 14 + 5)).trans v5
      have xc6 : wr.cell? ⟨gq, k * 14 + 2 + 4, none⟩ = some (.slice Y1 m1 d1) := (hbk.cell (k * 14 + 6)).trans v6
      have xc7 : wr.cell? ⟨gq, k * 14 + 2 + 5, none⟩ = some (q7) := (hbk.cell (k * 14 + 7)).trans v7
      have xc8 : wr.cell? ⟨gq, k * 14 + 2 + 6, none⟩ = some (q8) := (hbk.cell (k * 14 + 8)).trans v8
      have xc9 : wr.cell? ⟨gq, k * 14 + 2 + 7, none⟩ = some (.slice Y2 m2 d2) := (hbk.cell (k * 14 + 9)).trans v9
      have xc10 : wr.cell? ⟨gq, k * 14 + 2 + 8, none⟩ = some (q10) := (hbk.cell (k * 14 + 10)).trans v10
      have xc11 : wr.cell? ⟨gq, k * 14 + 2 + 9, none⟩ = some (q11) := (hbk.cell (k * 14 + 11)).trans v11
      have xc12 : wr.cell? ⟨gq, k * 14 + 2 + 10, none⟩ = some (.slice Y3 m3 d3) := (hbk.cell (k * 14 + 12)).trans v12
      have xc13 : wr.cell? ⟨gq, k * 14 + 2 + 11, none⟩ = some (q13) := (hbk.cell (k * 14 + 13)).trans v13
      have hsp := mspoil_any (fun g => wc.heap.size ≤ g ∧ g < x3.heap.size) q2 q4 q5 q7 q8 q10 q11 q13 Y0 m0 d0 Y1 m1 d1 Y2 m2 d2 Y3 m3 d3 wr (fun g hg => by have h1 := gU.out.1.size; have h2 := hg.2; omega) (by rw [← hn0]; exact hsx.1) hw0 (by rw [← hn1]; exact hsx.2.1) hw1 (by rw [← hn2]; exact hsx.2.2.1) hw2 (by rw [← hn3]; exact hsx.2.2.2) hw3
      have i1 : (0 : Int) ≤ k := by omega
      have i2 : (k : Int) < na := by omega
      have gxr := Lib.hid hxr
      clear hx hsx hc hxr hSg v0 v1 v2 v3 v4 v5 v6 v7 v8 v9 v10 v11 v12 v13 hn0 hn1 hn2 hn3 hw0 hw1 hw2 hw3
      go_wp2_with fail
      refine hsp.mono ?_
      rintro e w9 ⟨rfl, hsr⟩
      have hWr9 := hWr.spR hsr
      obtain ⟨g2, v, hA2, hg2, hc2, hf2, hW2, hFr⟩ := hWr9.set_val (j := 0) (x := .int .i64 x0.ep) gxr.out rfl (fdsE_lenT la) (.int .i64 (-7))
      injection hA2 with hA2
      injection hA2 with hA2 _ _
      subst hA2
      simp only [Nat.add_zero] at hc2 hf2 hW2 hFr
      have gW2 := Lib.hid hW2
      have gU2 := Lib.hid ((gU.out.trans (Un.of_sp hsr)).trans (Un.of_fr hFr))
      clear hsp hWr hWr9 hsr hW2 hFr hbk xc2 xc3 xc4 xc5 xc6 xc7 xc8 xc9 xc10 xc11 xc12 xc13
      go_wp2
      go_roundw
      case rel => exact ⟨k + 1, by omega, by go_num, gW2, gU2⟩
      case measure => simp [intOf]; omega
    · obtain rfl : k = na := by omega
      have hSA : ∀ g, (fun g => wc.heap.size ≤ g ∧ g < x3.heap.size) g → wc.heap.size ≤ g := fun g h => h.1
      have hq := gU.out
      have kx9 := hq.blk kx.out (fun h => by have h1 := h.2; have h2 := gtx.out; omega)
      have kp9 := hq.blk kp.out (fun h => by have h1 := h.2; have h2 := gtp.out; omega)
      have km9 := hq.blk km.out (fun h => by have h1 := h.1; have h2 := gtm.out; omega)
      have kg9 := hq.blk kg.out (fun h => by have h1 := h.1; have h2 := gtg.out; omega)
      have wx9 := wmx.out.keep' (fun g t cs hg hB => hq.blk hB (fun h => by have h1 := h.2; have h2 := hg.1; omega))
      have wp9 := wmp.out.keep' (fun g t cs hg hB => hq.blk hB (fun h => by have h1 := h.2; have h2 := hg.1; omega))
      have sz9 := hq.1.size
      clear gw
      have z0 : wr.cell? ⟨tx, 0, none⟩ = some (.bool x.m.s.neg) := by rw [kx9.cell]; rfl
      have z1 : wr.cell? ⟨tx, 1, none⟩ = some (.slice x.X0 x.m.s.ls.length x.c0) := by rw [kx9.cell]; rfl
      have z2 : wr.cell? ⟨tx, 2, none⟩ = some (.int .i64 x.m.s.ex) := by rw [kx9.cell]; rfl
      have z3 : wr.cell? ⟨tx, 3, none⟩ = some (.bool x.m.w.neg) := by rw [kx9.cell]; rfl
      have z4 : wr.cell? ⟨tx, 4, none⟩ = some (.slice x.X1 x.m.w.ls.length x.c1) := by rw [kx9.cell]; rfl
      have z5 : wr.cell? ⟨tx, 5, none⟩ = some (.int .i64 x.m.w.ex) := by rw [kx9.cell]; rfl
      have z6 : wr.cell? ⟨tx, 6, none⟩ = some (.bool x.m.c.neg) := by rw [kx9.cell]; rfl
      have z7 : wr.cell? ⟨tx, 7, none⟩ = some (.slice x.X2 x.m.c.ls.length x.c2) := by rw [kx9.cell]; rfl
      have z8 : wr.cell? ⟨tx, 8, none⟩ = some (.int .i64 x.m.c.ex) := by rw [kx9.cell]; rfl
      have z9 : wr.cell? ⟨tx, 9, none⟩ = some (.bool x.m.a.neg) := by rw [kx9.cell]; rfl
      have z10 : wr.cell? ⟨tx, 10, none⟩ = some (.slice x.X3 x.m.a.ls.length x.c3) := by rw [kx9.cell]; rfl
      have z11 : wr.cell? ⟨tx, 11, none⟩ = some (.int .i64 x.m.a.ex) := by rw [kx9.cell]; rfl
      have gsx := gsS.out
      rw [← ex.out] at gsx
      have hsp := mspoil_any (fun g => x4.heap.size ≤ g ∧ g < x5.heap.size) (.bool x.m.s.neg) (.int .i64 x.m.s.ex) (.bool x.m.w.neg) (.int .i64 x.m.w.ex) (.bool x.m.c.neg) (.int .i64 x.m.c.ex) (.bool x.m.a.neg) (.int .i64 x.m.a.ex) x.X0 x.m.s.ls.length x.c0 x.X1 x.m.w.ls.length x.c1 x.X2 x.m.c.ls.length x.c2 x.X3 x.m.a.ls.length x.c3 wr (fun g hg => by have h2 := hg.2; omega) gsx.1 wx9.1 gsx.2.1 wx9.2.1 gsx.2.2.1 wx9.2.2.1 gsx.2.2.2 wx9.2.2.2
      clear gsx
      go_wp2_with fail
      refine hsp.mono ?_
      rintro e wA ⟨rfl, hsr⟩
      clear hsp z0 z1 z2 z3 z4 z5 z6 z7 z8 z9 z10 z11
      have hu := Un.of_sp hsr
      clear hsr
      have sA := hu.1.size
      replace kp9 := hu.blk kp9 (fun h => by have h1 := h.2; have h2 := gtp.out; omega)
      replace km9 := hu.blk km9 (fun h => by have h1 := h.1; have h2 := gtm.out; omega)
      replace kg9 := hu.blk kg9 (fun h => by have h1 := h.1; have h2 := gtg.out; omega)
      replace wp9 := wp9.keep' (fun g t cs hg hB => hu.blk hB (fun h => by have h1 := h.2; have h2 := hg.1; omega))
      have hbA := hu.below (B := wc.heap.size) (by omega) (fun g h => by have := h.1; omega)
      clear hu kx9 wx9
      have z0 : wA.cell? ⟨tp, 0, none⟩ = some (.bool p.m.s.neg) := by rw [kp9.cell]; rfl
      have z1 : wA.cell? ⟨tp, 1, none⟩ = some (.slice p.X0 p.m.s.ls.length p.c0) := by rw [kp9.cell]; rfl
      have z2 : wA.cell? ⟨tp, 2, none⟩ = some (.int .i64 p.m.s.ex) := by rw [kp9.cell]; rfl
      have z3 : wA.cell? ⟨tp, 3, none⟩ = some (.bool p.m.w.neg) := by rw [kp9.cell]; rfl
      have z4 : wA.cell? ⟨tp, 4, none⟩ = some (.slice p.X1 p.m.w.ls.length p.c1) := by rw [kp9.cell]; rfl
      have z5 : wA.cell? ⟨tp, 5, none⟩ = some (.int .i64 p.m.w.ex) := by rw [kp9.cell]; rfl
      have z6 : wA.cell? ⟨tp, 6, none⟩ = some (.bool p.m.c.neg) := by rw [kp9.cell]; rfl
      have z7 : wA.cell? ⟨tp, 7, none⟩ = some (.slice p.X2 p.m.c.ls.length p.c2) := by rw [kp9.cell]; rfl
      have z8 : wA.cell? ⟨tp, 8, none⟩ = some (.int .i64 p.m.c.ex) := by rw [kp9.cell]; rfl
      have z9 : wA.cell? ⟨tp, 9, none⟩ = some (.bool p.m.a.neg) := by rw [kp9.cell]; rfl
      have z10 : wA.cell? ⟨tp, 10, none⟩ = some (.slice p.X3 p.m.a.ls.length p.c3) := by rw [kp9.cell]; rfl
      have z11 : wA.cell? ⟨tp, 11, none⟩ = some (.int .i64 p.m.a.ex) := by rw [kp9.cell]; rfl
      have gsx := gsO.out
      rw [← ep.out] at gsx
      have hsp := mspoil_any (fun g => y6x2.heap.size ≤ g ∧ g < x7.heap.size) (.bool p.m.s.neg) (.int .i64 p.m.s.ex) (.bool p.m.w.neg) (.int .i64 p.m.w.ex) (.bool p.m.c.neg) (.int .i64 p.m.c.ex) (.bool p.m.a.neg) (.int .i64 p.m.a.ex) p.X0 p.m.s.ls.length p.c0 p.X1 p.m.w.ls.length p.c1 p.X2 p.m.c.ls.length p.c2 p.X3 p.m.a.ls.length p.c3 wA (fun g hg => by have h2 := hg.2; omega) gsx.1 wp9.1 gsx.2.1 wp9.2.1 gsx.2.2.1 wp9.2.2.1 gsx.2.2.2 wp9.2.2.2
      clear gsx
      go_wp2_with fail
      refine hsp.mono ?_
      rintro e wB ⟨rfl, hsr⟩
      clear hsp z0 z1 z2 z3 z4 z5 z6 z7 z8 z9 z10 z11
      have hu := Un.of_sp hsr
      clear hsr
      have sB := hu.1.size
      replace km9 := hu.blk km9 (fun h => by have h1 := h.1; have h2 := gtm.out; omega)
      replace kg9 := hu.blk kg9 (fun h => by have h1 := h.1; have h2 := gtg.out; omega)
      have hbB := hu.below (B := wc.heap.size) (by omega) (fun g h => by have := h.1; omega)
      clear hu kp9 wp9
      have hbC : Below wc.heap.size wc wB := ((gW.out.trans (hq.below (B := wc.heap.size) (by omega) hSA)).trans hbA).trans hbB
      clear hbA hbB hq hSA
      have rW9 := Recs.more (Recs.below rW0.out hbC) hbC.size
      have r19 := Recs.more (Recs.below r10.out hbC) hbC.size
      have um9 := RdO.below um0.out hbC
      have ug9 := RdO.below ug0'.out hbC
      have hz := resame_any Ao A n n co c l l hn10 hn10 gs.out gs.out true (decide_eq_true rfl) wB rW9 r19
      go_wp2_with fail
      refine hz.mono ?_
      rintro e wC ⟨rfl, hb9⟩
      clear hz rW9 r19
      replace km9 := km9.below hb9 km9.lt
      replace kg9 := kg9.below hb9 kg9.lt
      have z0 : wC.cell? ⟨gm, 0, none⟩ = some (.bool om.m.s.neg) := by rw [km9.cell]; rfl
      have z1 : wC.cell? ⟨gm, 1, none⟩ = some (.slice om.X0 om.m.s.ls.length om.c0) := by rw [km9.cell]; rfl
      have z2 : wC.cell? ⟨gm, 2, none⟩ = some (.int .i64 om.m.s.ex) := by rw [km9.cell]; rfl
      have z3 : wC.cell? ⟨gm, 3, none⟩ = some (.bool om.m.w.neg) := by rw [km9.cell]; rfl
      have z4 : wC.cell? ⟨gm, 4, none⟩ = some (.slice om.X1 om.m.w.ls.length om.c1) := by rw [km9.cell]; rfl
      have z5 : wC.cell? ⟨gm, 5, none⟩ = some (.int .i64 om.m.w.ex) := by rw [km9.cell]; rfl
      have z6 : wC.cell? ⟨gm, 6, none⟩ = some (.bool om.m.c.neg) := by rw [km9.cell]; rfl
      have z7 : wC.cell? ⟨gm, 7, none⟩ = some (.slice om.X2 om.m.c.ls.length om.c2) := by rw [km9.cell]; rfl
      have z8 : wC.cell? ⟨gm, 8, none⟩ = some (.int .i64 om.m.c.ex) := by rw [km9.cell]; rfl
      have z9 : wC.cell? ⟨gm, 9, none⟩ = some (.bool om.m.a.neg) := by rw [km9.cell]; rfl
      have z10 : wC.cell? ⟨gm, 10, none⟩ = some (.slice om.X3 om.m.a.ls.length om.c3) := by rw [km9.cell]; rfl
      have z11 : wC.cell? ⟨gm, 11, none⟩ = some (.int .i64 om.m.a.ex) := by rw [km9.cell]; rfl
      have a0 : wC.cell? ⟨w.heap.size, 0, none⟩ = some (.bool g.m.s.neg) := by rw [kg9.cell]; rfl
      have a1 : wC.cell? ⟨w.heap.size, 1, none⟩ = some (.slice g.X0 g.m.s.ls.length g.c0) := by rw [kg9.cell]; rfl
      have a2 : wC.cell? ⟨w.heap.size, 2, none⟩ = some (.int .i64 g.m.s.ex) := by rw [kg9.cell]; rfl
      have a3 : wC.cell? ⟨w.heap.size, 3, none⟩ = some (.bool g.m.w.neg) := by rw [kg9.cell]; rfl
      have a4 : wC.cell? ⟨w.heap.size, 4, none⟩ = some (.slice g.X1 g.m.w.ls.length g.c1) := by rw [kg9.cell]; rfl
      have a5 : wC.cell? ⟨w.heap.size, 5, none⟩ = some (.int .i64 g.m.w.ex) := by rw [kg9.cell]; rfl
      have a6 : wC.cell? ⟨w.heap.size, 6, none⟩ = some (.bool g.m.c.neg) := by rw [kg9.cell]; rfl
      have a7 : wC.cell? ⟨w.heap.size, 7, none⟩ = some (.slice g.X2 g.m.c.ls.length g.c2) := by rw [kg9.cell]; rfl
      have a8 : wC.cell? ⟨w.heap.size, 8, none⟩ = some (.int .i64 g.m.c.ex) := by rw [kg9.cell]; rfl
      have a9 : wC.cell? ⟨w.heap.size, 9, none⟩ = some (.bool g.m.a.neg) := by rw [kg9.cell]; rfl
      have a10 : wC.cell? ⟨w.heap.size, 10, none⟩ = some (.slice g.X3 g.m.a.ls.length g.c3) := by rw [kg9.cell]; rfl
      have a11 : wC.cell? ⟨w.heap.size, 11, none⟩ = some (.int .i64 g.m.a.ex) := by rw [kg9.cell]; rfl
      have hz := rmsame_any om.m.s.neg om.X0 om.m.s.ls.length om.c0 om.m.s.ex om.m.w.neg om.X1 om.m.w.ls.length om.c1 om.m.w.ex om.m.c.neg om.X2 om.m.c.ls.length om.c2 om.m.c.ex om.m.a.neg om.X3 om.m.a.ls.length om.c3 om.m.a.ex g.m.s.neg g.X0 g.m.s.ls.length g.c0 g.m.s.ex g.m.w.neg g.X1 g.m.w.ls.length g.c1 g.m.w.ex g.m.c.neg g.X2 g.m.c.ls.length g.c2 g.m.c.ex g.m.a.neg g.X3 g.m.a.ls.length g.c3 g.m.a.ex om.m g.m (by rw [gem.out]; exact gsm.out) gsm.out wC (um9.below hb9) (ug9.below hb9) true (decide_eq_true gem.out)
      go_wp2_with fail
      refine hz.mono ?_
      rintro e wD ⟨rfl, hb10⟩
      have hfin := gBc.out.trans (((hbC.trans (hb9.mono hbC.size)).trans (hb10.mono (Nat.le_trans hbC.size hb9.size))).mono gBc.out.size)
      clear hz hbC hb9 hb10
      go_wp2
      go_ret
      exact ⟨rfl, hfin⟩
end Go.Proofs.YtmppalgecboeeaaDoor
