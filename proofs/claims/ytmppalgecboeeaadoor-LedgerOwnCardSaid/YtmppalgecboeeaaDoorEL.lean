/- Door: LedgerOwn -/
import Derived.Test.YtmppalgecboeeaaDoorEI
import Derived.Test.YtmppalgecboeeaaDoorEK
import Derived.Test.YtmppalgecboeeaaDoorLI
import Derived.Test.YtmppalgecboeeaaDoorLD
import Derived.Test.YtmppalgecboeeaaDoorLF
namespace Go.Proofs.YtmppalgecboeeaaDoor
open Go.ChangeShapes Go.WideShapes Go.ChangeAt Go.RowKit
set_option linter.unusedSimpArgs false
set_option linter.unusedVariables false
open Go.Shelf
set_option maxRecDepth 100000
theorem reads_takeE {w : World} {B size n m : Nat} {A : Option Addr} {xs : List Value} (h : Reads w B size A n xs) (hm : m ≤ n) : Reads w B size A m (xs.take (m * size)) :=
  ⟨by rw [List.length_take, h.1]; exact Nat.min_eq_left (Nat.mul_le_mul_right _ hm), fun h0 => by
    obtain ⟨ad, e, hb, hc⟩ := h.2 (by omega)
    exact ⟨ad, e, hb, fun j u hu => hc j u (by
      rw [List.getElem?_take] at hu
      split at hu
      · exact hu
      · cases hu)⟩⟩
theorem ens_take {w : World} {B n m : Nat} {A : Option Addr} {l : List En} (h : Ens w B A n l) (hm : m ≤ n) : Ens w B A m (l.take m) := by
  have hl := ens_len h
  obtain ⟨os, rfl, hr, ho⟩ := ens_rows h
  rw [List.length_map] at hl
  have e : (os.take m).flatMap row14 = (os.flatMap row14).take (m * 14) := by
    have h1 : os.flatMap row14 = (os.take m).flatMap row14 ++ (os.drop m).flatMap row14 := by rw [← List.flatMap_append, List.take_append_drop]
    rw [h1, List.take_left' (by rw [flat14_len, List.length_take]; rw [Nat.min_eq_left (by omega)])]
  rw [← List.map_take]
  refine rows_ens ?_ (fun o h => ho o (List.mem_of_mem_take h))
  rw [e]
  exact reads_takeE hr hm
theorem fine_smE {l : List En} (h : fine l) : ∀ x ∈ l, smM x.give := fun x hx => by
  have := h x hx
  unfold smM
  omega
theorem grM_smE {m : Ms} (h : grM m.s.ls.length m.s.ex m.w.ls.length m.w.ex m.c.ls.length m.c.ex m.a.ls.length m.a.ex = false) : smM m := by
  have := grM_no h
  unfold smM
  omega
set_option maxHeartbeats 64000000 in
theorem LedgerOwn.walk (A : Option Addr) (n c : Nat) (l : List En) (hmx : n ≤ maxLen) (hl : ∀ x ∈ l, ltM4 x.give) (N y : Int) (o : MB) (lo : ltM4 o.m) (N2 y2 : Int) (w : World) (h1 : Ens w w.heap.size A n l) (h2 : RdO w o) (hT : Tab w) : Calls Tryd.prog 6 #[.slice A n c, .int .i64 N, .int .u8 y, .agg #[.bool o.m.s.neg, .slice o.X0 o.m.s.ls.length o.c0, .int .i64 o.m.s.ex, .bool o.m.w.neg, .slice o.X1 o.m.w.ls.length o.c1, .int .i64 o.m.w.ex, .bool o.m.c.neg, .slice o.X2 o.m.c.ls.length o.c2, .int .i64 o.m.c.ex, .bool o.m.a.neg, .slice o.X3 o.m.a.ls.length o.c3, .int .i64 o.m.a.ex], .int .i64 N2, .int .u8 y2] w fun en w' => en = .returned (.bool true) ∧ Below w.heap.size w w' := by
  obtain ⟨V, hV⟩ : ∃ V, V = w.alloc (.cells #[.bool o.m.s.neg, .slice o.X0 o.m.s.ls.length o.c0, .int .i64 o.m.s.ex, .bool o.m.w.neg, .slice o.X1 o.m.w.ls.length o.c1, .int .i64 o.m.w.ex, .bool o.m.c.neg, .slice o.X2 o.m.c.ls.length o.c2, .int .i64 o.m.c.ex, .bool o.m.a.neg, .slice o.X3 o.m.a.ls.length o.c3, .int .i64 o.m.a.ex] 27) := ⟨_, rfl⟩
  have hB : Below w.heap.size w V := by rw [hV]; exact (Below.refl _ w).alloc (Nat.le_refl _) _
  have kg : Hid (Blk V w.heap.size 27 #[.bool o.m.s.neg, .slice o.X0 o.m.s.ls.length o.c0, .int .i64 o.m.s.ex, .bool o.m.w.neg, .slice o.X1 o.m.w.ls.length o.c1, .int .i64 o.m.w.ex, .bool o.m.c.neg, .slice o.X2 o.m.c.ls.length o.c2, .int .i64 o.m.c.ex, .bool o.m.a.neg, .slice o.X3 o.m.a.ls.length o.c3, .int .i64 o.m.a.ex]) := Lib.hid (by rw [hV]; exact Blk.new w _ _)
  have gT := Lib.hid (hT.below hB hT.2)
  have r1 := Lib.hid (Recs.more (Recs.below h1 hB) hB.size)
  have uo := Lib.hid (RdO.below h2 hB)
  have gB := Lib.hid hB
  clear hB h1 h2 hT
  go_enter Tryd.func6, Tryd.ntmps6
  go_wp2_with fail
  rw [← hV]
  clear hV
  refine (alive_any V gT.out).mono ?_
  rintro en x1 ⟨rfl, hb⟩
  have sx1 : V.heap.size ≤ x1.heap.size := hb.size
  replace gT := Lib.hid (Tab.below gT.out hb gT.out.2)
  replace r1 := Lib.hid (Recs.more (Recs.below r1.out hb) hb.size)
  replace uo := Lib.hid (RdO.below uo.out hb)
  replace kg := Lib.hid (kg.out.below hb kg.out.lt)
  replace gB := Lib.hid (gB.out.trans (hb.mono gB.out.size))
  clear hb
  go_wp2_with fail
  refine (egreat_any A n c l hmx x1 r1.out).mono ?_
  rintro en x2 ⟨G, rfl, hb, hG⟩
  have sx2 : x1.heap.size ≤ x2.heap.size := hb.size
  replace gT := Lib.hid (Tab.below gT.out hb gT.out.2)
  replace r1 := Lib.hid (Recs.more (Recs.below r1.out hb) hb.size)
  replace uo := Lib.hid (RdO.below uo.out hb)
  replace kg := Lib.hid (kg.out.below hb kg.out.lt)
  replace gB := Lib.hid (gB.out.trans (hb.mono gB.out.size))
  clear hb
  cases G with
  | true =>
    clear hG
    go_wp2
    go_ret
    exact ⟨rfl, gB.out⟩
  | false =>
  have gG := Lib.hid (hG rfl)
  clear hG
  by_cases h60 : n ≤ 60
  rotate_left
  · have t1 : (60 : Int) < (n : Int) := by omega
    have t2 : 60 < n := by omega
    clear h60
    go_wp2
    go_ret
    exact ⟨rfl, gB.out⟩
  have t1 : ¬ (60 : Int) < (n : Int) := by omega
  have t2 : ¬ 60 < n := by omega
  have gs := Lib.hid (fine_smE gG.out.2)
  obtain ⟨R, hR⟩ : ∃ R, grM o.m.s.ls.length o.m.s.ex o.m.w.ls.length o.m.w.ex o.m.c.ls.length o.m.c.ex o.m.a.ls.length o.m.a.ex = R := ⟨_, rfl⟩
  have gR := Lib.hid hR
  clear hR
  have z0 : x2.cell? ⟨w.heap.size, 0, none⟩ = some (.bool o.m.s.neg) := by rw [kg.out.cell]; rfl
  have z1 : x2.cell? ⟨w.heap.size, 1, none⟩ = some (.slice o.X0 o.m.s.ls.length o.c0) := by rw [kg.out.cell]; rfl
  have z2 : x2.cell? ⟨w.heap.size, 2, none⟩ = some (.int .i64 o.m.s.ex) := by rw [kg.out.cell]; rfl
  have z3 : x2.cell? ⟨w.heap.size, 3, none⟩ = some (.bool o.m.w.neg) := by rw [kg.out.cell]; rfl
  have z4 : x2.cell? ⟨w.heap.size, 4, none⟩ = some (.slice o.X1 o.m.w.ls.length o.c1) := by rw [kg.out.cell]; rfl
  have z5 : x2.cell? ⟨w.heap.size, 5, none⟩ = some (.int .i64 o.m.w.ex) := by rw [kg.out.cell]; rfl
  have z6 : x2.cell? ⟨w.heap.size, 6, none⟩ = some (.bool o.m.c.neg) := by rw [kg.out.cell]; rfl
  have z7 : x2.cell? ⟨w.heap.size, 7, none⟩ = some (.slice o.X2 o.m.c.ls.length o.c2) := by rw [kg.out.cell]; rfl
  have z8 : x2.cell? ⟨w.heap.size, 8, none⟩ = some (.int .i64 o.m.c.ex) := by rw [kg.out.cell]; rfl
  have z9 : x2.cell? ⟨w.heap.size, 9, none⟩ = some (.bool o.m.a.neg) := by rw [kg.out.cell]; rfl
  have z10 : x2.cell? ⟨w.heap.size, 10, none⟩ = some (.slice o.X3 o.m.a.ls.length o.c3) := by rw [kg.out.cell]; rfl
  have z11 : x2.cell? ⟨w.heap.size, 11, none⟩ = some (.int .i64 o.m.a.ex) := by rw [kg.out.cell]; rfl
  go_wp2_with fail
  refine (mgreat_any o.m.s.neg o.X0 o.m.s.ls.length o.c0 o.m.s.ex o.m.w.neg o.X1 o.m.w.ls.length o.c1 o.m.w.ex o.m.c.neg o.X2 o.m.c.ls.length o.c2 o.m.c.ex o.m.a.neg o.X3 o.m.a.ls.length o.c3 o.m.a.ex R gR.out x2).mono ?_
  rintro en x3 ⟨rfl, hb⟩
  have sx3 : x2.heap.size ≤ x3.heap.size := hb.size
  replace gT := Lib.hid (Tab.below gT.out hb gT.out.2)
  replace r1 := Lib.hid (Recs.more (Recs.below r1.out hb) hb.size)
  replace uo := Lib.hid (RdO.below uo.out hb)
  replace kg := Lib.hid (kg.out.below hb kg.out.lt)
  replace gB := Lib.hid (gB.out.trans (hb.mono gB.out.size))
  clear hb
  clear z0 z1 z2 z3 z4 z5 z6 z7 z8 z9 z10 z11 t1 t2
  cases R with
  | true =>
    clear h60
    go_wp2
    go_ret
    exact ⟨rfl, gB.out⟩
  | false =>
  have gsm := Lib.hid (grM_smE gR.out)
  have hn83 : n ≤ 8300 := by omega
  have z0 : x3.cell? ⟨w.heap.size, 0, none⟩ = some (.bool o.m.s.neg) := by rw [kg.out.cell]; rfl
  have z1 : x3.cell? ⟨w.heap.size, 1, none⟩ = some (.slice o.X0 o.m.s.ls.length o.c0) := by rw [kg.out.cell]; rfl
  have z2 : x3.cell? ⟨w.heap.size, 2, none⟩ = some (.int .i64 o.m.s.ex) := by rw [kg.out.cell]; rfl
  have z3 : x3.cell? ⟨w.heap.size, 3, none⟩ = some (.bool o.m.w.neg) := by rw [kg.out.cell]; rfl
  have z4 : x3.cell? ⟨w.heap.size, 4, none⟩ = some (.slice o.X1 o.m.w.ls.length o.c1) := by rw [kg.out.cell]; rfl
  have z5 : x3.cell? ⟨w.heap.size, 5, none⟩ = some (.int .i64 o.m.w.ex) := by rw [kg.out.cell]; rfl
  have z6 : x3.cell? ⟨w.heap.size, 6, none⟩ = some (.bool o.m.c.neg) := by rw [kg.out.cell]; rfl
  have z7 : x3.cell? ⟨w.heap.size, 7, none⟩ = some (.slice o.X2 o.m.c.ls.length o.c2) := by rw [kg.out.cell]; rfl
  have z8 : x3.cell? ⟨w.heap.size, 8, none⟩ = some (.int .i64 o.m.c.ex) := by rw [kg.out.cell]; rfl
  have z9 : x3.cell? ⟨w.heap.size, 9, none⟩ = some (.bool o.m.a.neg) := by rw [kg.out.cell]; rfl
  have z10 : x3.cell? ⟨w.heap.size, 10, none⟩ = some (.slice o.X3 o.m.a.ls.length o.c3) := by rw [kg.out.cell]; rfl
  have z11 : x3.cell? ⟨w.heap.size, 11, none⟩ = some (.int .i64 o.m.a.ex) := by rw [kg.out.cell]; rfl
  obtain ⟨E, hE⟩ : ∃ E, bkE l N y o.m = E := ⟨_, rfl⟩
  have gE := Lib.hid hE
  clear hE
  obtain ⟨l2, hl2⟩ : ∃ l2, bkL l N y o.m = l2 := ⟨_, rfl⟩
  have gl2 := Lib.hid hl2
  clear hl2
  obtain ⟨n2, hn2⟩ : ∃ n2, l2.length = n2 := ⟨_, rfl⟩
  have gn2 := Lib.hid hn2
  clear hn2
  go_wp2_with fail
  refine (book_any A n c l hn83 gs.out x3 r1.out N y o.m gsm.out o.X0 o.c0 o.X1 o.c1 o.X2 o.c2 o.X3 o.c3 uo.out).mono ?_
  rintro en x4 hP
  obtain ⟨Ao, co, rfl, hT2⟩ := book_is hP gE.out gl2.out
  clear hP
  rw [gn2.out] at hT2 ⊢
  have hb := hT2.2.2.2.1
  have r2 : Hid (Ens x4 x4.heap.size Ao n2 l2) := Lib.hid hT2.2.1
  have gco := Lib.hid hT2.1
  clear hT2
  have sx4 : x3.heap.size ≤ x4.heap.size := hb.size
  replace gT := Lib.hid (Tab.below gT.out hb gT.out.2)
  replace r1 := Lib.hid (Recs.more (Recs.below r1.out hb) hb.size)
  replace uo := Lib.hid (RdO.below uo.out hb)
  replace kg := Lib.hid (kg.out.below hb kg.out.lt)
  replace gB := Lib.hid (gB.out.trans (hb.mono gB.out.size))
  clear hb
  clear z0 z1 z2 z3 z4 z5 z6 z7 z8 z9 z10 z11
  by_cases h0 : E = 0
  rotate_left
  · have t1 : (E != 0) = true := bne_iff_ne.2 h0
    have e2 : l2 = [] := by rw [← gl2.out]; exact book_no_l (by rw [gE.out]; exact h0)
    have e3 : n2 = 0 := by rw [← gn2.out, e2]; rfl
    clear h0
    subst e3
    go_wp2
    go_ret
    exact ⟨rfl, gB.out⟩
  subst h0
  have gop := Lib.hid (own_plain (l := l) (N := N) (y := y) (g := o.m) lo gE.out N2 y2)
  rw [gl2.out] at gop
  obtain ⟨F, hF⟩ : ∃ F, lsE (askL l N2 y2) (ofE l N2 y2) = F := ⟨_, rfl⟩
  obtain ⟨X, hX⟩ : ∃ X, lsM (askL l N2 y2) (ofE l N2 y2) = X := ⟨_, rfl⟩
  obtain ⟨F2, hF2⟩ : ∃ F2, lsE (askL l2 N2 y2) (ofE l2 N2 y2) = F2 := ⟨_, rfl⟩
  obtain ⟨Y, hY⟩ : ∃ Y, lsM (askL l2 N2 y2) (ofE l2 N2 y2) = Y := ⟨_, rfl⟩
  rw [hF, hX, hF2, hY] at gop
  have okX : Hid (okM X) := Lib.hid (by rw [← hX]; exact lsM_ok (fun d hd => sumL_ok hd))
  have okY : Hid (okM Y) := Lib.hid (by rw [← hY]; exact lsM_ok (fun d hd => sumL_ok hd))
  have gF := Lib.hid (And.intro hF hX)
  have gF2 := Lib.hid (And.intro hF2 hY)
  clear hF hX hF2 hY
  obtain ⟨Hh, hH⟩ : ∃ Hh, maE X o.m = Hh := ⟨_, rfl⟩
  obtain ⟨Z, hZ⟩ : ∃ Z, maM X o.m = Z := ⟨_, rfl⟩
  rw [hH, hZ] at gop
  have okZ : Hid (okM Z) := Lib.hid (by rw [← hZ]; exact maM_ok _ _)
  have gH := Lib.hid (And.intro hH hZ)
  clear hH hZ
  obtain ⟨Q, hQ⟩ : ∃ Q, decide (o.m = zM) = Q := ⟨_, rfl⟩
  have gw : Hid (l2.take n = l ∧ ((n2 = n ∧ Q = true) ∨ (n2 = n + 1 ∧ Q = false)) ∧ (∀ x ∈ l2, ltM4 x.give)) := Lib.hid (by
    have hl1 := ens_len r1.out
    obtain ⟨_, _, h | ⟨h1, h2, _⟩⟩ := book_cases gE.out
    · have e : l2 = l := gl2.out.symm.trans h.2
      refine ⟨by rw [e, ← hl1, List.take_length], .inl ⟨by rw [← gn2.out, e, hl1], by rw [← hQ]; exact decide_eq_true h.1⟩, by rw [e]; exact hl⟩
    · have e : l2 = l ++ [⟨N, y, o.m⟩] := gl2.out.symm.trans h2
      refine ⟨by rw [e, ← hl1, List.take_left], .inr ⟨by rw [← gn2.out, e, List.length_append, hl1]; rfl, by rw [← hQ]; exact decide_eq_false h1⟩, fun x hx => ?_⟩
      rw [e] at hx
      rcases List.mem_append.1 hx with hx | hx
      · exact hl x hx
      · rw [List.mem_singleton.1 hx]; exact lo)
  have gQ := Lib.hid hQ
  clear hQ
  have hle : n ≤ n2 := by obtain ⟨_, h | h, _⟩ := gw.out <;> omega
  have hn84 : n2 ≤ 8300 := by obtain ⟨_, h | h, _⟩ := gw.out <;> omega
  have hco : n ≤ co := Nat.le_trans hle gco.out
  have i0 : (0 : Int) ≤ n := by omega
  have i1 : (n : Int) ≤ co := by omega
  have p0 : ¬ n2 < n := by omega
  have p1 : ¬ (n2 : Int) < (n : Int) := by omega
  clear h60
  go_upto_region 7 with fail
  go_cut [94] (fun s wx => s = .bool false ∧ Below x4.heap.size x4 wx)
  case first =>
    rcases gw.out.2.1 with ⟨hw, hq⟩ | ⟨hw, hq⟩
    · have p2 : ((n2 : Int) != (n : Int)) = false := bne_eq_false_iff_eq.2 (by omega)
      have p3 : ((n2 : Int) == (n : Int)) = true := beq_iff_eq.2 (by omega)
      have p4 : (n2 : Int) = (n : Int) := by omega
      replace hw := Lib.hid hw
      subst hq
      go_wp2_with fail
      refine (esame_any Ao A n n co c l l (by omega) (by omega) gs.out gs.out true (decide_eq_true rfl) x4 (by have h := ens_take r2.out hle; rw [gw.out.1] at h; exact h) r1.out).mono ?_
      rintro en x5 ⟨rfl, hb⟩
      have hs1 := hb
      have sx5 : x4.heap.size ≤ x5.heap.size := hb.size
      replace gT := Lib.hid (Tab.below gT.out hb gT.out.2)
      replace r1 := Lib.hid (Recs.more (Recs.below r1.out hb) hb.size)
      replace uo := Lib.hid (RdO.below uo.out hb)
      replace kg := Lib.hid (kg.out.below hb kg.out.lt)
      replace r2 := Lib.hid (Recs.more (Recs.below r2.out hb) hb.size)
      replace gB := Lib.hid (gB.out.trans (hb.mono gB.out.size))
      clear hb
      have z0 : x5.cell? ⟨w.heap.size, 0, none⟩ = some (.bool o.m.s.neg) := by rw [kg.out.cell]; rfl
      have z1 : x5.cell? ⟨w.heap.size, 1, none⟩ = some (.slice o.X0 o.m.s.ls.length o.c0) := by rw [kg.out.cell]; rfl
      have z2 : x5.cell? ⟨w.heap.size, 2, none⟩ = some (.int .i64 o.m.s.ex) := by rw [kg.out.cell]; rfl
      have z3 : x5.cell? ⟨w.heap.size, 3, none⟩ = some (.bool o.m.w.neg) := by rw [kg.out.cell]; rfl
      have z4 : x5.cell? ⟨w.heap.size, 4, none⟩ = some (.slice o.X1 o.m.w.ls.length o.c1) := by rw [kg.out.cell]; rfl
      have z5 : x5.cell? ⟨w.heap.size, 5, none⟩ = some (.int .i64 o.m.w.ex) := by rw [kg.out.cell]; rfl
      have z6 : x5.cell? ⟨w.heap.size, 6, none⟩ = some (.bool o.m.c.neg) := by rw [kg.out.cell]; rfl
      have z7 : x5.cell? ⟨w.heap.size, 7, none⟩ = some (.slice o.X2 o.m.c.ls.length o.c2) := by rw [kg.out.cell]; rfl
      have z8 : x5.cell? ⟨w.heap.size, 8, none⟩ = some (.int .i64 o.m.c.ex) := by rw [kg.out.cell]; rfl
      have z9 : x5.cell? ⟨w.heap.size, 9, none⟩ = some (.bool o.m.a.neg) := by rw [kg.out.cell]; rfl
      have z10 : x5.cell? ⟨w.heap.size, 10, none⟩ = some (.slice o.X3 o.m.a.ls.length o.c3) := by rw [kg.out.cell]; rfl
      have z11 : x5.cell? ⟨w.heap.size, 11, none⟩ = some (.int .i64 o.m.a.ex) := by rw [kg.out.cell]; rfl
      go_wp2_with fail
      refine (msame_any o.m.s.neg o.X0 o.m.s.ls.length o.c0 o.m.s.ex o.m.w.neg o.X1 o.m.w.ls.length o.c1 o.m.w.ex o.m.c.neg o.X2 o.m.c.ls.length o.c2 o.m.c.ex o.m.a.neg o.X3 o.m.a.ls.length o.c3 o.m.a.ex false none 0 0 0 false none 0 0 0 false none 0 0 0 false none 0 0 0 o.m zM gsm.out zM_sm x5 uo.out (rdM_zero _ _) _ gQ.out).mono ?_
      rintro en x6 ⟨rfl, hb⟩
      have gC := Lib.hid ((show Below x4.heap.size x4 x5 from hs1).trans (hb.mono hs1.size))
      have sx6 : x5.heap.size ≤ x6.heap.size := hb.size
      replace gT := Lib.hid (Tab.below gT.out hb gT.out.2)
      replace r1 := Lib.hid (Recs.more (Recs.below r1.out hb) hb.size)
      replace uo := Lib.hid (RdO.below uo.out hb)
      replace kg := Lib.hid (kg.out.below hb kg.out.lt)
      replace r2 := Lib.hid (Recs.more (Recs.below r2.out hb) hb.size)
      replace gB := Lib.hid (gB.out.trans (hb.mono gB.out.size))
      clear hb
      clear z0 z1 z2 z3 z4 z5 z6 z7 z8 z9 z10 z11
      go_wp2
      go_meet
      exact ⟨rfl, gC.out⟩
    · have p2 : ((n2 : Int) != (n : Int)) = true := bne_iff_ne.2 (by omega)
      have p3 : ((n2 : Int) == (n : Int)) = false := beq_eq_false_iff_ne.2 (by omega)
      have p4 : ((n2 : Int) != (n : Int) + 1) = false := bne_eq_false_iff_eq.2 (by omega)
      replace hw := Lib.hid hw
      subst hq
      go_wp2_with fail
      refine (esame_any Ao A n n co c l l (by omega) (by omega) gs.out gs.out true (decide_eq_true rfl) x4 (by have h := ens_take r2.out hle; rw [gw.out.1] at h; exact h) r1.out).mono ?_
      rintro en x5 ⟨rfl, hb⟩
      have hs1 := hb
      have sx5 : x4.heap.size ≤ x5.heap.size := hb.size
      replace gT := Lib.hid (Tab.below gT.out hb gT.out.2)
      replace r1 := Lib.hid (Recs.more (Recs.below r1.out hb) hb.size)
      replace uo := Lib.hid (RdO.below uo.out hb)
      replace kg := Lib.hid (kg.out.below hb kg.out.lt)
      replace r2 := Lib.hid (Recs.more (Recs.below r2.out hb) hb.size)
      replace gB := Lib.hid (gB.out.trans (hb.mono gB.out.size))
      clear hb
      have z0 : x5.cell? ⟨w.heap.size, 0, none⟩ = some (.bool o.m.s.neg) := by rw [kg.out.cell]; rfl
      have z1 : x5.cell? ⟨w.heap.size, 1, none⟩ = some (.slice o.X0 o.m.s.ls.length o.c0) := by rw [kg.out.cell]; rfl
      have z2 : x5.cell? ⟨w.heap.size, 2, none⟩ = some (.int .i64 o.m.s.ex) := by rw [kg.out.cell]; rfl
      have z3 : x5.cell? ⟨w.heap.size, 3, none⟩ = some (.bool o.m.w.neg) := by rw [kg.out.cell]; rfl
      have z4 : x5.cell? ⟨w.heap.size, 4, none⟩ = some (.slice o.X1 o.m.w.ls.length o.c1) := by rw [kg.out.cell]; rfl
      have z5 : x5.cell? ⟨w.heap.size, 5, none⟩ = some (.int .i64 o.m.w.ex) := by rw [kg.out.cell]; rfl
      have z6 : x5.cell? ⟨w.heap.size, 6, none⟩ = some (.bool o.m.c.neg) := by rw [kg.out.cell]; rfl
      have z7 : x5.cell? ⟨w.heap.size, 7, none⟩ = some (.slice o.X2 o.m.c.ls.length o.c2) := by rw [kg.out.cell]; rfl
      have z8 : x5.cell? ⟨w.heap.size, 8, none⟩ = some (.int .i64 o.m.c.ex) := by rw [kg.out.cell]; rfl
      have z9 : x5.cell? ⟨w.heap.size, 9, none⟩ = some (.bool o.m.a.neg) := by rw [kg.out.cell]; rfl
      have z10 : x5.cell? ⟨w.heap.size, 10, none⟩ = some (.slice o.X3 o.m.a.ls.length o.c3) := by rw [kg.out.cell]; rfl
      have z11 : x5.cell? ⟨w.heap.size, 11, none⟩ = some (.int .i64 o.m.a.ex) := by rw [kg.out.cell]; rfl
      go_wp2_with fail
      refine (msame_any o.m.s.neg o.X0 o.m.s.ls.length o.c0 o.m.s.ex o.m.w.neg o.X1 o.m.w.ls.length o.c1 o.m.w.ex o.m.c.neg o.X2 o.m.c.ls.length o.c2 o.m.c.ex o.m.a.neg o.X3 o.m.a.ls.length o.c3 o.m.a.ex false none 0 0 0 false none 0 0 0 false none 0 0 0 false none 0 0 0 o.m zM gsm.out zM_sm x5 uo.out (rdM_zero _ _) _ gQ.out).mono ?_
      rintro en x6 ⟨rfl, hb⟩
      have gC := Lib.hid ((show Below x4.heap.size x4 x5 from hs1).trans (hb.mono hs1.size))
      have sx6 : x5.heap.size ≤ x6.heap.size := hb.size
      replace gT := Lib.hid (Tab.below gT.out hb gT.out.2)
      replace r1 := Lib.hid (Recs.more (Recs.below r1.out hb) hb.size)
      replace uo := Lib.hid (RdO.below uo.out hb)
      replace kg := Lib.hid (kg.out.below hb kg.out.lt)
      replace r2 := Lib.hid (Recs.more (Recs.below r2.out hb) hb.size)
      replace gB := Lib.hid (gB.out.trans (hb.mono gB.out.size))
      clear hb
      clear z0 z1 z2 z3 z4 z5 z6 z7 z8 z9 z10 z11
      go_wp2
      go_meet
      exact ⟨rfl, gC.out⟩
  case rest =>
  obtain ⟨rfl, hb⟩ := hcut
  clear p0 p1 i0 i1 hco
  have swc : x4.heap.size ≤ wc.heap.size := hb.size
  replace gT := Lib.hid (Tab.below gT.out hb gT.out.2)
  replace r1 := Lib.hid (Recs.more (Recs.below r1.out hb) hb.size)
  replace uo := Lib.hid (RdO.below uo.out hb)
  replace kg := Lib.hid (kg.out.below hb kg.out.lt)
  replace r2 := Lib.hid (Recs.more (Recs.below r2.out hb) hb.size)
  replace gB := Lib.hid (gB.out.trans (hb.mono gB.out.size))
  clear hb
  go_wp2_with fail
  refine (lsumO_any A n c l hn83 wc r1.out hl N2 y2 gT.out).mono ?_
  rintro en x9 hP
  have hq := lsum_one hP
  rw [gF.out.1, gF.out.2] at hq
  obtain ⟨x, ex, rfl, ux, hb⟩ := hq
  clear hP
  replace ex := Lib.hid ex
  replace ux := Lib.hid ux.rd
  have sx9 : wc.heap.size ≤ x9.heap.size := hb.size
  replace gT := Lib.hid (Tab.below gT.out hb gT.out.2)
  replace r1 := Lib.hid (Recs.more (Recs.below r1.out hb) hb.size)
  replace uo := Lib.hid (RdO.below uo.out hb)
  replace kg := Lib.hid (kg.out.below hb kg.out.lt)
  replace r2 := Lib.hid (Recs.more (Recs.below r2.out hb) hb.size)
  replace gB := Lib.hid (gB.out.trans (hb.mono gB.out.size))
  clear hb
  obtain ⟨tx, ht⟩ : ∃ t, t = x9.heap.size := ⟨_, rfl⟩
  obtain ⟨y9x, hy9x⟩ : ∃ W, W = x9.alloc (.cells #[.bool x.m.s.neg, .slice x.X0 x.m.s.ls.length x.c0, .int .i64 x.m.s.ex, .bool x.m.w.neg, .slice x.X1 x.m.w.ls.length x.c1, .int .i64 x.m.w.ex, .bool x.m.c.neg, .slice x.X2 x.m.c.ls.length x.c2, .int .i64 x.m.c.ex, .bool x.m.a.neg, .slice x.X3 x.m.a.ls.length x.c3, .int .i64 x.m.a.ex] 27) := ⟨_, rfl⟩
  have hb : Below x9.heap.size x9 y9x := by rw [hy9x]; exact (Below.refl _ _).alloc (Nat.le_refl _) _
  have kx : Blk y9x x9.heap.size 27 #[.bool x.m.s.neg, .slice x.X0 x.m.s.ls.length x.c0, .int .i64 x.m.s.ex, .bool x.m.w.neg, .slice x.X1 x.m.w.ls.length x.c1, .int .i64 x.m.w.ex, .bool x.m.c.neg, .slice x.X2 x.m.c.ls.length x.c2, .int .i64 x.m.c.ex, .bool x.m.a.neg, .slice x.X3 x.m.a.ls.length x.c3, .int .i64 x.m.a.ex] := by rw [hy9x]; exact Blk.new _ _ _
  rw [← ht] at kx
  replace kx := Lib.hid kx
  have sy9x : x9.heap.size ≤ y9x.heap.size := hb.size
  replace gT := Lib.hid (Tab.below gT.out hb gT.out.2)
  replace r1 := Lib.hid (Recs.more (Recs.below r1.out hb) hb.size)
  replace uo := Lib.hid (RdO.below uo.out hb)
  replace kg := Lib.hid (kg.out.below hb kg.out.lt)
  replace r2 := Lib.hid (Recs.more (Recs.below r2.out hb) hb.size)
  replace ux := Lib.hid (RdO.below ux.out hb)
  replace gB := Lib.hid (gB.out.trans (hb.mono gB.out.size))
  clear hb
  go_wp2_with fail
  rw [← hy9x]
  clear hy9x
  rw [← ht]
  clear ht
  refine (lsumO_any Ao n2 co l2 hn84 y9x r2.out gw.out.2.2 N2 y2 gT.out).mono ?_
  rintro en x10 hP
  have hq := lsum_one hP
  rw [gF2.out.1, gF2.out.2] at hq
  obtain ⟨z, ez, rfl, uz, hb⟩ := hq
  clear hP
  replace ez := Lib.hid ez
  replace uz := Lib.hid uz.rd
  have sx10 : y9x.heap.size ≤ x10.heap.size := hb.size
  replace gT := Lib.hid (Tab.below gT.out hb gT.out.2)
  replace r1 := Lib.hid (Recs.more (Recs.below r1.out hb) hb.size)
  replace uo := Lib.hid (RdO.below uo.out hb)
  replace kg := Lib.hid (kg.out.below hb kg.out.lt)
  replace r2 := Lib.hid (Recs.more (Recs.below r2.out hb) hb.size)
  replace ux := Lib.hid (RdO.below ux.out hb)
  replace kx := Lib.hid (kx.out.below hb kx.out.lt)
  replace gB := Lib.hid (gB.out.trans (hb.mono gB.out.size))
  clear hb
  obtain ⟨tz, ht⟩ : ∃ t, t = x10.heap.size := ⟨_, rfl⟩
  obtain ⟨y10z, hy10z⟩ : ∃ W, W = x10.alloc (.cells #[.bool z.m.s.neg, .slice z.X0 z.m.s.ls.length z.c0, .int .i64 z.m.s.ex, .bool z.m.w.neg, .slice z.X1 z.m.w.ls.length z.c1, .int .i64 z.m.w.ex, .bool z.m.c.neg, .slice z.X2 z.m.c.ls.length z.c2, .int .i64 z.m.c.ex, .bool z.m.a.neg, .slice z.X3 z.m.a.ls.length z.c3, .int .i64 z.m.a.ex] 27) := ⟨_, rfl⟩
  have hb : Below x10.heap.size x10 y10z := by rw [hy10z]; exact (Below.refl _ _).alloc (Nat.le_refl _) _
  have kz : Blk y10z x10.heap.size 27 #[.bool z.m.s.neg, .slice z.X0 z.m.s.ls.length z.c0, .int .i64 z.m.s.ex, .bool z.m.w.neg, .slice z.X1 z.m.w.ls.length z.c1, .int .i64 z.m.w.ex, .bool z.m.c.neg, .slice z.X2 z.m.c.ls.length z.c2, .int .i64 z.m.c.ex, .bool z.m.a.neg, .slice z.X3 z.m.a.ls.length z.c3, .int .i64 z.m.a.ex] := by rw [hy10z]; exact Blk.new _ _ _
  rw [← ht] at kz
  replace kz := Lib.hid kz
  have sy10z : x10.heap.size ≤ y10z.heap.size := hb.size
  replace gT := Lib.hid (Tab.below gT.out hb gT.out.2)
  replace r1 := Lib.hid (Recs.more (Recs.below r1.out hb) hb.size)
  replace uo := Lib.hid (RdO.below uo.out hb)
  replace kg := Lib.hid (kg.out.below hb kg.out.lt)
  replace r2 := Lib.hid (Recs.more (Recs.below r2.out hb) hb.size)
  replace ux := Lib.hid (RdO.below ux.out hb)
  replace kx := Lib.hid (kx.out.below hb kx.out.lt)
  replace uz := Lib.hid (RdO.below uz.out hb)
  replace gB := Lib.hid (gB.out.trans (hb.mono gB.out.size))
  clear hb
  go_upto_region 11 with fail
  rw [← hy10z]
  clear hy10z
  rw [← ht]
  clear ht
  have a0 : y10z.cell? ⟨tx, 0, none⟩ = some (.bool x.m.s.neg) := by rw [kx.out.cell]; rfl
  have a1 : y10z.cell? ⟨tx, 1, none⟩ = some (.slice x.X0 x.m.s.ls.length x.c0) := by rw [kx.out.cell]; rfl
  have a2 : y10z.cell? ⟨tx, 2, none⟩ = some (.int .i64 x.m.s.ex) := by rw [kx.out.cell]; rfl
  have a3 : y10z.cell? ⟨tx, 3, none⟩ = some (.bool x.m.w.neg) := by rw [kx.out.cell]; rfl
  have a4 : y10z.cell? ⟨tx, 4, none⟩ = some (.slice x.X1 x.m.w.ls.length x.c1) := by rw [kx.out.cell]; rfl
  have a5 : y10z.cell? ⟨tx, 5, none⟩ = some (.int .i64 x.m.w.ex) := by rw [kx.out.cell]; rfl
  have a6 : y10z.cell? ⟨tx, 6, none⟩ = some (.bool x.m.c.neg) := by rw [kx.out.cell]; rfl
  have a7 : y10z.cell? ⟨tx, 7, none⟩ = some (.slice x.X2 x.m.c.ls.length x.c2) := by rw [kx.out.cell]; rfl
  have a8 : y10z.cell? ⟨tx, 8, none⟩ = some (.int .i64 x.m.c.ex) := by rw [kx.out.cell]; rfl
  have a9 : y10z.cell? ⟨tx, 9, none⟩ = some (.bool x.m.a.neg) := by rw [kx.out.cell]; rfl
  have a10 : y10z.cell? ⟨tx, 10, none⟩ = some (.slice x.X3 x.m.a.ls.length x.c3) := by rw [kx.out.cell]; rfl
  have a11 : y10z.cell? ⟨tx, 11, none⟩ = some (.int .i64 x.m.a.ex) := by rw [kx.out.cell]; rfl
  have z0 : y10z.cell? ⟨w.heap.size, 0, none⟩ = some (.bool o.m.s.neg) := by rw [kg.out.cell]; rfl
  have z1 : y10z.cell? ⟨w.heap.size, 1, none⟩ = some (.slice o.X0 o.m.s.ls.length o.c0) := by rw [kg.out.cell]; rfl
  have z2 : y10z.cell? ⟨w.heap.size, 2, none⟩ = some (.int .i64 o.m.s.ex) := by rw [kg.out.cell]; rfl
  have z3 : y10z.cell? ⟨w.heap.size, 3, none⟩ = some (.bool o.m.w.neg) := by rw [kg.out.cell]; rfl
  have z4 : y10z.cell? ⟨w.heap.size, 4, none⟩ = some (.slice o.X1 o.m.w.ls.length o.c1) := by rw [kg.out.cell]; rfl
  have z5 : y10z.cell? ⟨w.heap.size, 5, none⟩ = some (.int .i64 o.m.w.ex) := by rw [kg.out.cell]; rfl
  have z6 : y10z.cell? ⟨w.heap.size, 6, none⟩ = some (.bool o.m.c.neg) := by rw [kg.out.cell]; rfl
  have z7 : y10z.cell? ⟨w.heap.size, 7, none⟩ = some (.slice o.X2 o.m.c.ls.length o.c2) := by rw [kg.out.cell]; rfl
  have z8 : y10z.cell? ⟨w.heap.size, 8, none⟩ = some (.int .i64 o.m.c.ex) := by rw [kg.out.cell]; rfl
  have z9 : y10z.cell? ⟨w.heap.size, 9, none⟩ = some (.bool o.m.a.neg) := by rw [kg.out.cell]; rfl
  have z10 : y10z.cell? ⟨w.heap.size, 10, none⟩ = some (.slice o.X3 o.m.a.ls.length o.c3) := by rw [kg.out.cell]; rfl
  have z11 : y10z.cell? ⟨w.heap.size, 11, none⟩ = some (.int .i64 o.m.a.ex) := by rw [kg.out.cell]; rfl
  go_wp2_with fail
  refine (madd_any x.m o.m (by rw [ex.out]; exact okX.out.lt) lo x.X0 x.c0 x.X1 x.c1 x.X2 x.c2 x.X3 x.c3 o.X0 o.c0 o.X1 o.c1 o.X2 o.c2 o.X3 o.c3 y10z ux.out uo.out gT.out).mono ?_
  rintro en x11 hP
  rw [ex.out] at hP
  have hq := madd_one hP
  rw [gH.out.1, gH.out.2] at hq
  obtain ⟨v, ev, rfl, uv, hb⟩ := hq
  clear hP
  replace ev := Lib.hid ev
  replace uv := Lib.hid uv.rd
  have sx11 : y10z.heap.size ≤ x11.heap.size := hb.size
  replace gT := Lib.hid (Tab.below gT.out hb gT.out.2)
  replace r1 := Lib.hid (Recs.more (Recs.below r1.out hb) hb.size)
  replace uo := Lib.hid (RdO.below uo.out hb)
  replace kg := Lib.hid (kg.out.below hb kg.out.lt)
  replace r2 := Lib.hid (Recs.more (Recs.below r2.out hb) hb.size)
  replace ux := Lib.hid (RdO.below ux.out hb)
  replace kx := Lib.hid (kx.out.below hb kx.out.lt)
  replace uz := Lib.hid (RdO.below uz.out hb)
  replace kz := Lib.hid (kz.out.below hb kz.out.lt)
  replace gB := Lib.hid (gB.out.trans (hb.mono gB.out.size))
  clear hb
  clear a0 a1 a2 a3 a4 a5 a6 a7 a8 a9 a10 a11 z0 z1 z2 z3 z4 z5 z6 z7 z8 z9 z10 z11
  obtain ⟨tv, ht⟩ : ∃ t, t = x11.heap.size := ⟨_, rfl⟩
  obtain ⟨y11v, hy11v⟩ : ∃ W, W = x11.alloc (.cells #[.bool v.m.s.neg, .slice v.X0 v.m.s.ls.length v.c0, .int .i64 v.m.s.ex, .bool v.m.w.neg, .slice v.X1 v.m.w.ls.length v.c1, .int .i64 v.m.w.ex, .bool v.m.c.neg, .slice v.X2 v.m.c.ls.length v.c2, .int .i64 v.m.c.ex, .bool v.m.a.neg, .slice v.X3 v.m.a.ls.length v.c3, .int .i64 v.m.a.ex] 27) := ⟨_, rfl⟩
  have hb : Below x11.heap.size x11 y11v := by rw [hy11v]; exact (Below.refl _ _).alloc (Nat.le_refl _) _
  have kv : Blk y11v x11.heap.size 27 #[.bool v.m.s.neg, .slice v.X0 v.m.s.ls.length v.c0, .int .i64 v.m.s.ex, .bool v.m.w.neg, .slice v.X1 v.m.w.ls.length v.c1, .int .i64 v.m.w.ex, .bool v.m.c.neg, .slice v.X2 v.m.c.ls.length v.c2, .int .i64 v.m.c.ex, .bool v.m.a.neg, .slice v.X3 v.m.a.ls.length v.c3, .int .i64 v.m.a.ex] := by rw [hy11v]; exact Blk.new _ _ _
  rw [← ht] at kv
  replace kv := Lib.hid kv
  have sy11v : x11.heap.size ≤ y11v.heap.size := hb.size
  replace gT := Lib.hid (Tab.below gT.out hb gT.out.2)
  replace r1 := Lib.hid (Recs.more (Recs.below r1.out hb) hb.size)
  replace uo := Lib.hid (RdO.below uo.out hb)
  replace kg := Lib.hid (kg.out.below hb kg.out.lt)
  replace r2 := Lib.hid (Recs.more (Recs.below r2.out hb) hb.size)
  replace ux := Lib.hid (RdO.below ux.out hb)
  replace kx := Lib.hid (kx.out.below hb kx.out.lt)
  replace uz := Lib.hid (RdO.below uz.out hb)
  replace kz := Lib.hid (kz.out.below hb kz.out.lt)
  replace uv := Lib.hid (RdO.below uv.out hb)
  replace gB := Lib.hid (gB.out.trans (hb.mono gB.out.size))
  clear hb
  go_upto_region 12 with fail
  rw [← hy11v]
  clear hy11v
  rw [← ht]
  clear ht
  by_cases f0 : F = 0
  rotate_left
  · have t1 : (F != 0) = true := bne_iff_ne.2 f0
    obtain rfl : F2 = F := gop.out.2.1 f0
    have t2 : (F2 == F2) = true := by simp
    clear f0
    go_wp2
    go_ret
    exact ⟨rfl, gB.out⟩
  subst f0
  by_cases hc : N2 = N ∧ y2 = y
  rotate_left
  · have hz := gop.out.2.2.1 rfl hc
    obtain rfl : F2 = 0 := hz.1
    have e3 : Y = X := hz.2
    have t9 : (N2 != N) = true ∨ ((N2 != N) = false ∧ (y2 != y) = true) := by
      by_cases h : N2 = N
      · exact .inr ⟨bne_eq_false_iff_eq.2 h, bne_iff_ne.2 (fun h2 => hc ⟨h, h2⟩)⟩
      · exact .inl (bne_iff_ne.2 h)
    clear hc hz
    rcases t9 with t1 | ⟨t1, t2⟩
    · have a0 : y11v.cell? ⟨tx, 0, none⟩ = some (.bool x.m.s.neg) := by rw [kx.out.cell]; rfl
      have a1 : y11v.cell? ⟨tx, 1, none⟩ = some (.slice x.X0 x.m.s.ls.length x.c0) := by rw [kx.out.cell]; rfl
      have a2 : y11v.cell? ⟨tx, 2, none⟩ = some (.int .i64 x.m.s.ex) := by rw [kx.out.cell]; rfl
      have a3 : y11v.cell? ⟨tx, 3, none⟩ = some (.bool x.m.w.neg) := by rw [kx.out.cell]; rfl
      have a4 : y11v.cell? ⟨tx, 4, none⟩ = some (.slice x.X1 x.m.w.ls.length x.c1) := by rw [kx.out.cell]; rfl
      have a5 : y11v.cell? ⟨tx, 5, none⟩ = some (.int .i64 x.m.w.ex) := by rw [kx.out.cell]; rfl
      have a6 : y11v.cell? ⟨tx, 6, none⟩ = some (.bool x.m.c.neg) := by rw [kx.out.cell]; rfl
      have a7 : y11v.cell? ⟨tx, 7, none⟩ = some (.slice x.X2 x.m.c.ls.length x.c2) := by rw [kx.out.cell]; rfl
      have a8 : y11v.cell? ⟨tx, 8, none⟩ = some (.int .i64 x.m.c.ex) := by rw [kx.out.cell]; rfl
      have a9 : y11v.cell? ⟨tx, 9, none⟩ = some (.bool x.m.a.neg) := by rw [kx.out.cell]; rfl
      have a10 : y11v.cell? ⟨tx, 10, none⟩ = some (.slice x.X3 x.m.a.ls.length x.c3) := by rw [kx.out.cell]; rfl
      have a11 : y11v.cell? ⟨tx, 11, none⟩ = some (.int .i64 x.m.a.ex) := by rw [kx.out.cell]; rfl
      have z0 : y11v.cell? ⟨tz, 0, none⟩ = some (.bool z.m.s.neg) := by rw [kz.out.cell]; rfl
      have z1 : y11v.cell? ⟨tz, 1, none⟩ = some (.slice z.X0 z.m.s.ls.length z.c0) := by rw [kz.out.cell]; rfl
      have z2 : y11v.cell? ⟨tz, 2, none⟩ = some (.int .i64 z.m.s.ex) := by rw [kz.out.cell]; rfl
      have z3 : y11v.cell? ⟨tz, 3, none⟩ = some (.bool z.m.w.neg) := by rw [kz.out.cell]; rfl
      have z4 : y11v.cell? ⟨tz, 4, none⟩ = some (.slice z.X1 z.m.w.ls.length z.c1) := by rw [kz.out.cell]; rfl
      have z5 : y11v.cell? ⟨tz, 5, none⟩ = some (.int .i64 z.m.w.ex) := by rw [kz.out.cell]; rfl
      have z6 : y11v.cell? ⟨tz, 6, none⟩ = some (.bool z.m.c.neg) := by rw [kz.out.cell]; rfl
      have z7 : y11v.cell? ⟨tz, 7, none⟩ = some (.slice z.X2 z.m.c.ls.length z.c2) := by rw [kz.out.cell]; rfl
      have z8 : y11v.cell? ⟨tz, 8, none⟩ = some (.int .i64 z.m.c.ex) := by rw [kz.out.cell]; rfl
      have z9 : y11v.cell? ⟨tz, 9, none⟩ = some (.bool z.m.a.neg) := by rw [kz.out.cell]; rfl
      have z10 : y11v.cell? ⟨tz, 10, none⟩ = some (.slice z.X3 z.m.a.ls.length z.c3) := by rw [kz.out.cell]; rfl
      have z11 : y11v.cell? ⟨tz, 11, none⟩ = some (.int .i64 z.m.a.ex) := by rw [kz.out.cell]; rfl
      go_wp2_with fail
      refine (msame_any x.m.s.neg x.X0 x.m.s.ls.length x.c0 x.m.s.ex x.m.w.neg x.X1 x.m.w.ls.length x.c1 x.m.w.ex x.m.c.neg x.X2 x.m.c.ls.length x.c2 x.m.c.ex x.m.a.neg x.X3 x.m.a.ls.length x.c3 x.m.a.ex z.m.s.neg z.X0 z.m.s.ls.length z.c0 z.m.s.ex z.m.w.neg z.X1 z.m.w.ls.length z.c1 z.m.w.ex z.m.c.neg z.X2 z.m.c.ls.length z.c2 z.m.c.ex z.m.a.neg z.X3 z.m.a.ls.length z.c3 z.m.a.ex x.m z.m (by rw [ex.out]; exact okX.out.sm) (by rw [ez.out]; exact okY.out.sm) y11v ux.out uz.out true (decide_eq_true (by rw [ex.out, ez.out]; exact e3.symm))).mono ?_
      rintro en x12 ⟨rfl, hb⟩
      have sx12 : y11v.heap.size ≤ x12.heap.size := hb.size
      replace gT := Lib.hid (Tab.below gT.out hb gT.out.2)
      replace r1 := Lib.hid (Recs.more (Recs.below r1.out hb) hb.size)
      replace uo := Lib.hid (RdO.below uo.out hb)
      replace kg := Lib.hid (kg.out.below hb kg.out.lt)
      replace r2 := Lib.hid (Recs.more (Recs.below r2.out hb) hb.size)
      replace ux := Lib.hid (RdO.below ux.out hb)
      replace kx := Lib.hid (kx.out.below hb kx.out.lt)
      replace uz := Lib.hid (RdO.below uz.out hb)
      replace kz := Lib.hid (kz.out.below hb kz.out.lt)
      replace uv := Lib.hid (RdO.below uv.out hb)
      replace kv := Lib.hid (kv.out.below hb kv.out.lt)
      replace gB := Lib.hid (gB.out.trans (hb.mono gB.out.size))
      clear hb
      clear a0 a1 a2 a3 a4 a5 a6 a7 a8 a9 a10 a11 z0 z1 z2 z3 z4 z5 z6 z7 z8 z9 z10 z11
      go_wp2
      go_ret
      exact ⟨rfl, gB.out⟩
    · have a0 : y11v.cell? ⟨tx, 0, none⟩ = some (.bool x.m.s.neg) := by rw [kx.out.cell]; rfl
      have a1 : y11v.cell? ⟨tx, 1, none⟩ = some (.slice x.X0 x.m.s.ls.length x.c0) := by rw [kx.out.cell]; rfl
      have a2 : y11v.cell? ⟨tx, 2, none⟩ = some (.int .i64 x.m.s.ex) := by rw [kx.out.cell]; rfl
      have a3 : y11v.cell? ⟨tx, 3, none⟩ = some (.bool x.m.w.neg) := by rw [kx.out.cell]; rfl
      have a4 : y11v.cell? ⟨tx, 4, none⟩ = some (.slice x.X1 x.m.w.ls.length x.c1) := by rw [kx.out.cell]; rfl
      have a5 : y11v.cell? ⟨tx, 5, none⟩ = some (.int .i64 x.m.w.ex) := by rw [kx.out.cell]; rfl
      have a6 : y11v.cell? ⟨tx, 6, none⟩ = some (.bool x.m.c.neg) := by rw [kx.out.cell]; rfl
      have a7 : y11v.cell? ⟨tx, 7, none⟩ = some (.slice x.X2 x.m.c.ls.length x.c2) := by rw [kx.out.cell]; rfl
      have a8 : y11v.cell? ⟨tx, 8, none⟩ = some (.int .i64 x.m.c.ex) := by rw [kx.out.cell]; rfl
      have a9 : y11v.cell? ⟨tx, 9, none⟩ = some (.bool x.m.a.neg) := by rw [kx.out.cell]; rfl
      have a10 : y11v.cell? ⟨tx, 10, none⟩ = some (.slice x.X3 x.m.a.ls.length x.c3) := by rw [kx.out.cell]; rfl
      have a11 : y11v.cell? ⟨tx, 11, none⟩ = some (.int .i64 x.m.a.ex) := by rw [kx.out.cell]; rfl
      have z0 : y11v.cell? ⟨tz, 0, none⟩ = some (.bool z.m.s.neg) := by rw [kz.out.cell]; rfl
      have z1 : y11v.cell? ⟨tz, 1, none⟩ = some (.slice z.X0 z.m.s.ls.length z.c0) := by rw [kz.out.cell]; rfl
      have z2 : y11v.cell? ⟨tz, 2, none⟩ = some (.int .i64 z.m.s.ex) := by rw [kz.out.cell]; rfl
      have z3 : y11v.cell? ⟨tz, 3, none⟩ = some (.bool z.m.w.neg) := by rw [kz.out.cell]; rfl
      have z4 : y11v.cell? ⟨tz, 4, none⟩ = some (.slice z.X1 z.m.w.ls.length z.c1) := by rw [kz.out.cell]; rfl
      have z5 : y11v.cell? ⟨tz, 5, none⟩ = some (.int .i64 z.m.w.ex) := by rw [kz.out.cell]; rfl
      have z6 : y11v.cell? ⟨tz, 6, none⟩ = some (.bool z.m.c.neg) := by rw [kz.out.cell]; rfl
      have z7 : y11v.cell? ⟨tz, 7, none⟩ = some (.slice z.X2 z.m.c.ls.length z.c2) := by rw [kz.out.cell]; rfl
      have z8 : y11v.cell? ⟨tz, 8, none⟩ = some (.int .i64 z.m.c.ex) := by rw [kz.out.cell]; rfl
      have z9 : y11v.cell? ⟨tz, 9, none⟩ = some (.bool z.m.a.neg) := by rw [kz.out.cell]; rfl
      have z10 : y11v.cell? ⟨tz, 10, none⟩ = some (.slice z.X3 z.m.a.ls.length z.c3) := by rw [kz.out.cell]; rfl
      have z11 : y11v.cell? ⟨tz, 11, none⟩ = some (.int .i64 z.m.a.ex) := by rw [kz.out.cell]; rfl
      go_wp2_with fail
      refine (msame_any x.m.s.neg x.X0 x.m.s.ls.length x.c0 x.m.s.ex x.m.w.neg x.X1 x.m.w.ls.length x.c1 x.m.w.ex x.m.c.neg x.X2 x.m.c.ls.length x.c2 x.m.c.ex x.m.a.neg x.X3 x.m.a.ls.length x.c3 x.m.a.ex z.m.s.neg z.X0 z.m.s.ls.length z.c0 z.m.s.ex z.m.w.neg z.X1 z.m.w.ls.length z.c1 z.m.w.ex z.m.c.neg z.X2 z.m.c.ls.length z.c2 z.m.c.ex z.m.a.neg z.X3 z.m.a.ls.length z.c3 z.m.a.ex x.m z.m (by rw [ex.out]; exact okX.out.sm) (by rw [ez.out]; exact okY.out.sm) y11v ux.out uz.out true (decide_eq_true (by rw [ex.out, ez.out]; exact e3.symm))).mono ?_
      rintro en x12 ⟨rfl, hb⟩
      have sx12 : y11v.heap.size ≤ x12.heap.size := hb.size
      replace gT := Lib.hid (Tab.below gT.out hb gT.out.2)
      replace r1 := Lib.hid (Recs.more (Recs.below r1.out hb) hb.size)
      replace uo := Lib.hid (RdO.below uo.out hb)
      replace kg := Lib.hid (kg.out.below hb kg.out.lt)
      replace r2 := Lib.hid (Recs.more (Recs.below r2.out hb) hb.size)
      replace ux := Lib.hid (RdO.below ux.out hb)
      replace kx := Lib.hid (kx.out.below hb kx.out.lt)
      replace uz := Lib.hid (RdO.below uz.out hb)
      replace kz := Lib.hid (kz.out.below hb kz.out.lt)
      replace uv := Lib.hid (RdO.below uv.out hb)
      replace kv := Lib.hid (kv.out.below hb kv.out.lt)
      replace gB := Lib.hid (gB.out.trans (hb.mono gB.out.size))
      clear hb
      clear a0 a1 a2 a3 a4 a5 a6 a7 a8 a9 a10 a11 z0 z1 z2 z3 z4 z5 z6 z7 z8 z9 z10 z11
      go_wp2
      go_ret
      exact ⟨rfl, gB.out⟩
  have hz := gop.out.2.2.2 rfl hc
  obtain rfl : F2 = Hh := hz.1
  have e3 : Y = Z := hz.2
  have t1 : (N2 != N) = false := bne_eq_false_iff_eq.2 hc.1
  have t2 : (y2 != y) = false := bne_eq_false_iff_eq.2 hc.2
  have t3 : (F2 == F2) = true := by simp
  clear hc hz
  have a0 : y11v.cell? ⟨tz, 0, none⟩ = some (.bool z.m.s.neg) := by rw [kz.out.cell]; rfl
  have a1 : y11v.cell? ⟨tz, 1, none⟩ = some (.slice z.X0 z.m.s.ls.length z.c0) := by rw [kz.out.cell]; rfl
  have a2 : y11v.cell? ⟨tz, 2, none⟩ = some (.int .i64 z.m.s.ex) := by rw [kz.out.cell]; rfl
  have a3 : y11v.cell? ⟨tz, 3, none⟩ = some (.bool z.m.w.neg) := by rw [kz.out.cell]; rfl
  have a4 : y11v.cell? ⟨tz, 4, none⟩ = some (.slice z.X1 z.m.w.ls.length z.c1) := by rw [kz.out.cell]; rfl
  have a5 : y11v.cell? ⟨tz, 5, none⟩ = some (.int .i64 z.m.w.ex) := by rw [kz.out.cell]; rfl
  have a6 : y11v.cell? ⟨tz, 6, none⟩ = some (.bool z.m.c.neg) := by rw [kz.out.cell]; rfl
  have a7 : y11v.cell? ⟨tz, 7, none⟩ = some (.slice z.X2 z.m.c.ls.length z.c2) := by rw [kz.out.cell]; rfl
  have a8 : y11v.cell? ⟨tz, 8, none⟩ = some (.int .i64 z.m.c.ex) := by rw [kz.out.cell]; rfl
  have a9 : y11v.cell? ⟨tz, 9, none⟩ = some (.bool z.m.a.neg) := by rw [kz.out.cell]; rfl
  have a10 : y11v.cell? ⟨tz, 10, none⟩ = some (.slice z.X3 z.m.a.ls.length z.c3) := by rw [kz.out.cell]; rfl
  have a11 : y11v.cell? ⟨tz, 11, none⟩ = some (.int .i64 z.m.a.ex) := by rw [kz.out.cell]; rfl
  have z0 : y11v.cell? ⟨tv, 0, none⟩ = some (.bool v.m.s.neg) := by rw [kv.out.cell]; rfl
  have z1 : y11v.cell? ⟨tv, 1, none⟩ = some (.slice v.X0 v.m.s.ls.length v.c0) := by rw [kv.out.cell]; rfl
  have z2 : y11v.cell? ⟨tv, 2, none⟩ = some (.int .i64 v.m.s.ex) := by rw [kv.out.cell]; rfl
  have z3 : y11v.cell? ⟨tv, 3, none⟩ = some (.bool v.m.w.neg) := by rw [kv.out.cell]; rfl
  have z4 : y11v.cell? ⟨tv, 4, none⟩ = some (.slice v.X1 v.m.w.ls.length v.c1) := by rw [kv.out.cell]; rfl
  have z5 : y11v.cell? ⟨tv, 5, none⟩ = some (.int .i64 v.m.w.ex) := by rw [kv.out.cell]; rfl
  have z6 : y11v.cell? ⟨tv, 6, none⟩ = some (.bool v.m.c.neg) := by rw [kv.out.cell]; rfl
  have z7 : y11v.cell? ⟨tv, 7, none⟩ = some (.slice v.X2 v.m.c.ls.length v.c2) := by rw [kv.out.cell]; rfl
  have z8 : y11v.cell? ⟨tv, 8, none⟩ = some (.int .i64 v.m.c.ex) := by rw [kv.out.cell]; rfl
  have z9 : y11v.cell? ⟨tv, 9, none⟩ = some (.bool v.m.a.neg) := by rw [kv.out.cell]; rfl
  have z10 : y11v.cell? ⟨tv, 10, none⟩ = some (.slice v.X3 v.m.a.ls.length v.c3) := by rw [kv.out.cell]; rfl
  have z11 : y11v.cell? ⟨tv, 11, none⟩ = some (.int .i64 v.m.a.ex) := by rw [kv.out.cell]; rfl
  go_wp2_with fail
  refine (msame_any z.m.s.neg z.X0 z.m.s.ls.length z.c0 z.m.s.ex z.m.w.neg z.X1 z.m.w.ls.length z.c1 z.m.w.ex z.m.c.neg z.X2 z.m.c.ls.length z.c2 z.m.c.ex z.m.a.neg z.X3 z.m.a.ls.length z.c3 z.m.a.ex v.m.s.neg v.X0 v.m.s.ls.length v.c0 v.m.s.ex v.m.w.neg v.X1 v.m.w.ls.length v.c1 v.m.w.ex v.m.c.neg v.X2 v.m.c.ls.length v.c2 v.m.c.ex v.m.a.neg v.X3 v.m.a.ls.length v.c3 v.m.a.ex z.m v.m (by rw [ez.out]; exact okY.out.sm) (by rw [ev.out]; exact okZ.out.sm) y11v uz.out uv.out true (decide_eq_true (by rw [ez.out, ev.out]; exact e3))).mono ?_
  rintro en x12 ⟨rfl, hb⟩
  have sx12 : y11v.heap.size ≤ x12.heap.size := hb.size
  replace gT := Lib.hid (Tab.below gT.out hb gT.out.2)
  replace r1 := Lib.hid (Recs.more (Recs.below r1.out hb) hb.size)
  replace uo := Lib.hid (RdO.below uo.out hb)
  replace kg := Lib.hid (kg.out.below hb kg.out.lt)
  replace r2 := Lib.hid (Recs.more (Recs.below r2.out hb) hb.size)
  replace ux := Lib.hid (RdO.below ux.out hb)
  replace kx := Lib.hid (kx.out.below hb kx.out.lt)
  replace uz := Lib.hid (RdO.below uz.out hb)
  replace kz := Lib.hid (kz.out.below hb kz.out.lt)
  replace uv := Lib.hid (RdO.below uv.out hb)
  replace kv := Lib.hid (kv.out.below hb kv.out.lt)
  replace gB := Lib.hid (gB.out.trans (hb.mono gB.out.size))
  clear hb
  clear a0 a1 a2 a3 a4 a5 a6 a7 a8 a9 a10 a11 z0 z1 z2 z3 z4 z5 z6 z7 z8 z9 z10 z11
  go_wp2
  go_ret
  exact ⟨rfl, gB.out⟩
end Go.Proofs.YtmppalgecboeeaaDoor
