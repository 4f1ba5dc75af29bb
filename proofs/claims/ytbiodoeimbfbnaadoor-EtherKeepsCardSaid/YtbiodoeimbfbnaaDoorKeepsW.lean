/- Ether's Door: the walk of the law EtherKeeps. -/
import Derived.Test.YtbiodoeimbfbnaaDoorKeepsP
import Derived.Deep.QuietTactic
import Derived.BigQuiet
namespace Go.Proofs.YtbiodoeimbfbnaaDoor
open Go.ChangeShapes Go.WideShapes Go.ChangeAt Go.RowKit
set_option linter.unusedSimpArgs false
set_option linter.unusedVariables false
set_option maxRecDepth 100000 in
set_option maxHeartbeats 16000000 in
theorem EtherKeeps.walk (A : Option Addr) (n c : Nat) (l : List Cp) (i : Int) (num dn : Int) (txt : List Nat) (sp : Bool) (X : Option Addr) (m d : Nat) (hmx : n ≤ maxLen) (hnc : n ≤ c) (hby : ∀ x ∈ l, ∀ b ∈ x.txt, b < 256) (hm : txt.length = m) (hd : m ≤ d) (hbx : ∀ b ∈ txt, b < 256) (w : World) (h1 : Cps w w.heap.size A n l) (hX : Reads w w.heap.size 1 X m (ints .u8 txt)) (hT : Tab w) :
    Calls Tryd.prog 5 #[.slice A n c, .int .i64 i, .agg #[.int .i64 num, .int .i64 dn, .slice X m d, .bool sp]] w fun e w' => e = .returned (.bool true) ∧ Below w.heap.size w w' := by
  have ln := cps_len h1
  have gby := Lib.hid hby
  have gbx := Lib.hid hbx
  have gm := Lib.hid hm
  have gd := Lib.hid hd
  have hB0 := (Below.refl w.heap.size w).alloc (Nat.le_refl _) (.cells #[.int .i64 num, .int .i64 dn, .slice X m d, .bool sp] 37)
  have kc := Blk.new w 37 #[.int .i64 num, .int .i64 dn, .slice X m d, .bool sp]
  have hal := alive_any _ (hT.below hB0 hT.2)
  clear hby hbx hm hd
  go_enter Tryd.func5, Tryd.ntmps5
  go_wp2_with fail
  refine hal.mono ?_
  rintro e v0 ⟨rfl, hb⟩
  replace kc := kc.below hb kc.lt
  replace hB0 := hB0.trans (hb.mono hB0.size)
  have r0 := (h1.below hB0).more hB0.size
  have hX0 := (hX.below hB0).more hB0.size
  have hT0 := hT.below hB0 hT.2
  have kc2 := kc.cell 2
  simp only [List.getElem?_toArray, List.getElem?_cons_zero, List.getElem?_cons_succ] at kc2
  clear hal hb h1 hX hT
  go_wp2_with fail
  refine (great_any A n c l hmx v0 r0).mono ?_
  rintro e v0' ⟨G, rfl, rfl, hG⟩
  cases G with
  | true =>
    clear r0 hX0 hT0 hG
    go_wp2
    go_ret
    exact ⟨rfl, hB0⟩
  | false =>
    obtain ⟨h20, ht5⟩ := hG rfl
    rw [ln] at h20
    have hn : n ≤ 1000 := by omega
    clear hG
    by_cases hm5 : 5000 < m
    · have d1 : decide ((5000 : Int) < m) = true := decide_eq_true (by omega)
      have d2 : decide (5000 < m) = true := decide_eq_true hm5
      clear r0 hX0 hT0 hm5
      go_wp2
      go_ret
      exact ⟨rfl, hB0⟩
    · have d1 : decide ((5000 : Int) < m) = false := decide_eq_false (by omega)
      have d2 : decide (5000 < m) = false := decide_eq_false hm5
      have hm5' : m ≤ 5000 := by omega
      clear hm5
      go_wp2_with fail
      obtain ⟨R, hR⟩ : ∃ R, tkS l i = R := ⟨_, rfl⟩
      have htk := take_any A n c l hn hnc i v0 r0
      rw [hR] at htk
      obtain ⟨L, x, E⟩ := R
      rcases tk_cases hR with ⟨hE0, rfl, rfl, hEc⟩ | ⟨rfl, k, rfl, hkl, hE, hl0, hL⟩
      · have t1 : (E != 0) = true := bne_iff_ne.2 hE0
        have gEc := Lib.hid hEc
        have gt5 := Lib.hid ht5
        clear hR hE0 hEc ht5
        refine htk.mono ?_
        rintro e v1 ⟨Ao, co, X', m', d', K, rfl, _, _, rfl, _, _, _, _, _, _, hb1⟩
        simp only [List.length_nil]
        have hB1 := hB0.trans (hb1.mono hB0.size)
        have r1 := (r0.below hb1).more hb1.size
        obtain ⟨F, hF⟩ : ∃ F, chkE l = F := ⟨_, rfl⟩
        have gF := Lib.hid hF
        have hb := (Below.refl v1.heap.size v1).alloc (Nat.le_refl _) (.cells #[.int .i64 0, .int .i64 0, .slice X' 0 d', .bool false] 37)
        have hck := check_any A n c l (by omega) F hF _ ((r1.below hb).more hb.size)
        have hB2 := hB1.trans (hb.mono hB1.size)
        clear htk hb hF r1 r0
        go_wp2_with fail
        refine hck.mono ?_
        rintro e v2 ⟨rfl, hb2⟩
        have hB3 := hB2.trans (hb2.mono hB2.size)
        clear hck hb2 hB2 hB1
        by_cases hEF : E = F
        · have tE : (E == F) = true := beq_iff_eq.2 hEF
          clear hEF
          go_wp2
          go_ret
          exact ⟨rfl, hB3⟩
        · have tE : (E == F) = false := beq_eq_false_iff_ne.2 hEF
          rcases gEc.out with h | ⟨rfl, h⟩
          · exact absurd (h.trans gF.out) hEF
          · rw [ln] at h
            have tE2 : ((2 : Int) == F) = false := tE
            clear hEF
            by_cases hi : i < 0
            · have d3 : decide (i < 0) = true := decide_eq_true hi
              clear h hi
              go_wp2
              go_ret
              exact ⟨rfl, hB3⟩
            · have d3 : decide (i < 0) = false := decide_eq_false hi
              have d4 : decide ((n : Int) ≤ i) = true := decide_eq_true (by omega)
              clear h hi
              go_wp2
              go_ret
              exact ⟨rfl, hB3⟩
      · have hLn : L.length = n - 1 := by rw [hL, rest_len hkl, ln]
        have hkn : k < n := by omega
        refine htk.mono ?_
        rintro e v1 ⟨Ar, cr, Xx, mx, dx, K, rfl, hcr, or, hmx', hdx, rx, _, _, _, _, hb1⟩
        simp only [hLn] at hcr or ⊢
        have hB1 := hB0.trans (hb1.mono hB0.size)
        have r1 := (r0.below hb1).more hb1.size
        have i1 : decide ((k : Int) < 0) = false := decide_eq_false (by omega)
        have i2 : decide ((n : Int) ≤ k) = false := decide_eq_false (by omega)
        have i2' : decide (n ≤ k) = false := decide_eq_false (by omega)
        have i3 : (0 : Int) ≤ k := by omega
        have i4 : (k : Int) < n := by omega
        obtain ⟨xn, xd, xt, xs⟩ := x
        simp only at hmx' rx ⊢
        obtain ⟨ad, num', dn', txt', sp', Xl, ml, dl, rfl, ha0, hl1, hx0, hxd0, hr0⟩ := cps_rel r1 hkn
        rw [hl0] at hl1
        injection hl1 with hl1
        injection hl1 with e1 e2 e3 e4
        subst e1 e2 e3 e4
        obtain rfl : ml = mx := by rw [← hmx']; exact hx0.symm
        obtain ⟨V1, hV1⟩ : ∃ V, V = v1.alloc (.cells #[.int .i64 xn, .int .i64 xd, .slice Xx ml dx, .bool xs] 37) := ⟨_, rfl⟩
        have kx := Blk.new v1 37 #[.int .i64 xn, .int .i64 xd, .slice Xx ml dx, .bool xs]
        have hb2 : Below v1.heap.size v1 V1 := by rw [hV1]; exact (Below.refl _ _).alloc (Nat.le_refl _) _
        rw [← hV1] at kx
        have SS : ∀ w', Below V1.heap.size V1 w' → w'.cell? ⟨v1.heap.size, 0, none⟩ = some (.int .i64 xn) ∧ w'.cell? ⟨v1.heap.size, 1, none⟩ = some (.int .i64 xd) ∧ w'.cell? ⟨v1.heap.size, 2, none⟩ = some (.slice Xx ml dx) ∧ w'.cell? ⟨v1.heap.size, 3, none⟩ = some (.bool xs) ∧ w'.cell? (ad.add (k * 4)) = some (.int .i64 xn) ∧ w'.cell? ⟨((ad.add (k * 4))).block, ((ad.add (k * 4))).off + 1, none⟩ = some (.int .i64 xd) ∧ w'.cell? ⟨((ad.add (k * 4))).block, ((ad.add (k * 4))).off + 2, none⟩ = some (.slice Xl ml dl) ∧ w'.cell? ⟨((ad.add (k * 4))).block, ((ad.add (k * 4))).off + 3, none⟩ = some (.bool xs) := by
          intro w' hw
          have k5 := kx.below hw kx.lt
          have c0 := k5.cell 0
          have c1 := k5.cell 1
          have c2 := k5.cell 2
          have c3 := k5.cell 3
          simp only [List.getElem?_toArray, List.getElem?_cons_zero, List.getElem?_cons_succ] at c0 c1 c2 c3
          obtain ⟨_, b0, b1, b2, b3⟩ := hr0 w' (hb2.trans (hw.mono hb2.size))
          exact ⟨c0, c1, c2, c3, b0, b1, b2, b3⟩
        have hbt : ∀ b ∈ xt, b < 256 := gby.out _ (List.mem_of_getElem? hl0)
        have hml : ml ≤ 5000 := by have := ht5 _ (List.mem_of_getElem? hl0); simp only at this; omega
        have hq0 : ∀ w', Below V1.heap.size V1 w' → Calls Tryd.prog 19 #[.agg #[.int .i64 xn, .int .i64 xd, .slice Xx ml dx, .bool xs], .agg #[.int .i64 xn, .int .i64 xd, .slice Xl ml dl, .bool xs]] w' fun en w'' => en = .returned (.bool true) ∧ Below w'.heap.size w' w'' := by
          intro w' hw
          have hw2 := hb2.trans (hw.mono hb2.size)
          exact sameOne_any xn xd xn xd Xx Xl ml dx ml dl xt xt xs xs hmx' hmx' (by omega) (by omega) hbt hbt true (by simp) w' ((rx.below hw2).more hw2.size) (hr0 w' hw2).1
        have htL : ∀ y ∈ L, y.txt.length ≤ 10000 := by rw [hL]; exact rest_all (Q := fun y => y.txt.length ≤ 10000) (fun y hy => by have := ht5 y hy; omega)
        have htl : ∀ y ∈ l, y.txt.length ≤ 10000 := fun y hy => by have := ht5 y hy; omega
        obtain ⟨A4, hA4⟩ : ∃ x, (if c = k + 1 then some ad else some (ad.add ((k + 1) * 4))) = x := ⟨_, rfl⟩
        obtain ⟨A5, hA5⟩ : ∃ x, (if cr = k then Ar else Option.map (fun x => x.add (k * 4)) Ar) = x := ⟨_, rfl⟩
        have hq1 : ∀ w', Below V1.heap.size V1 w' → Calls Tryd.prog 20 #[.slice Ar k cr, .slice (some ad) k c] w' fun en w'' => en = .returned (.bool true) ∧ Below w'.heap.size w' w'' := by
          intro w' hw
          have hw2 := hb2.trans (hw.mono hb2.size)
          have t1 := ((or.below hw2).more hw2.size).take (show k ≤ n - 1 by omega)
          have t2 := ((r1.below hw2).more hw2.size).take (show k ≤ n by omega)
          rw [← List.map_take] at t1 t2
          exact same_any _ _ _ _ _ _ (L.take k) (l.take k) (by omega) (by omega) (fun y hy => htL y (List.mem_of_mem_take hy)) (fun y hy => htl y (List.mem_of_mem_take hy)) true (decide_eq_true (by rw [hL, rest_head hkl])) w' t1 t2
        have hq2 : ∀ w', Below V1.heap.size V1 w' → Calls Tryd.prog 20 #[.slice A5 (n - 1 - k) (cr - k), .slice A4 (n - (k + 1)) (c - (k + 1))] w' fun en w'' => en = .returned (.bool true) ∧ Below w'.heap.size w' w'' := by
          intro w' hw
          have hw2 := hb2.trans (hw.mono hb2.size)
          have d1 := ((or.below hw2).more hw2.size).cut (show k ≤ n - 1 by omega) hcr
          have d2 := ((r1.below hw2).more hw2.size).cut (show k + 1 ≤ n by omega) hnc
          rw [hA5, ← List.map_drop] at d1
          rw [Option.map_some, hA4, ← List.map_drop] at d2
          exact same_any _ _ _ _ _ _ (L.drop k) (l.drop (k + 1)) (by omega) (by omega) (fun y hy => htL y (List.mem_of_mem_drop hy)) (fun y hy => htl y (List.mem_of_mem_drop hy)) true (decide_eq_true (by rw [hL, rest_tail hkl])) w' d1 d2
        have i5 : (k : Int) + 1 ≤ n := by omega
        have i6 : (k : Int) ≤ cr := by omega
        have i7 : (k : Int) ≤ c := by omega
        have i8 : (0 : Int) ≤ (k : Int) + 1 := by omega
        have i9 : ((k : Int) + 1).toNat = k + 1 := by omega
        have i11 : ¬ c = 0 := by omega
        have i13 : (k : Int) + 1 ≤ c := by omega
        have i14 : (k : Int) ≤ ((n - 1 : Nat) : Int) := by omega
        have w9 : IntKind.i64.wrap ((k : Int) + 1) = (k : Int) + 1 := IntWalk.i64_in _ (by omega)
        have gE := Lib.hid (And.intro hE (And.intro hl0 (And.intro hL hkl)))
        have gb := Lib.hid (And.intro hb2 (And.intro htL (And.intro htl hbt)))
        have gr0 := Lib.hid hr0
        have grx := Lib.hid rx
        have gr1 := Lib.hid r1
        have gor := Lib.hid or
        have gml := Lib.hid hmx'
        have gxl := Lib.hid hxd0
        have gst := Lib.hid hLn
        have hbc := Below.refl V1.heap.size V1
        clear htk hE hl0 hL hkl htL htl hbt hr0 rx r1 or hR hmx' hLn hx0 ht5 r0 hb2 kx
        go_wp2_with fail
        rw [← hV1]
        clear hV1
        go_region_held3 (fun w' => w'.cell? ⟨v1.heap.size, 0, none⟩ = some (.int .i64 xn) ∧ w'.cell? ⟨v1.heap.size, 1, none⟩ = some (.int .i64 xd) ∧ w'.cell? ⟨v1.heap.size, 2, none⟩ = some (.slice Xx ml dx) ∧ w'.cell? ⟨v1.heap.size, 3, none⟩ = some (.bool xs) ∧ w'.cell? (ad.add (k * 4)) = some (.int .i64 xn) ∧ w'.cell? ⟨((ad.add (k * 4))).block, ((ad.add (k * 4))).off + 1, none⟩ = some (.int .i64 xd) ∧ w'.cell? ⟨((ad.add (k * 4))).block, ((ad.add (k * 4))).off + 2, none⟩ = some (.slice Xl ml dl) ∧ w'.cell? ⟨((ad.add (k * 4))).block, ((ad.add (k * 4))).off + 3, none⟩ = some (.bool xs)) (first | exact SS _ hbc | exact SS _ (Below.drew hbc)) (first | (go_at_call 19; refine (hq0 _ (by first | exact hbc | exact Below.drew hbc)).mono ?_; rintro en w8 ⟨rfl, hb8⟩; have hbc := Below.trans (by first | exact hbc | exact Below.drew hbc) (hb8.mono (by have := hbc.size; first | exact this | (simp [World.drew]; exact this)))) | (go_at_call 20; refine (hq1 _ (by first | exact hbc | exact Below.drew hbc)).mono ?_; rintro en w8 ⟨rfl, hb8⟩; have hbc := Below.trans (by first | exact hbc | exact Below.drew hbc) (hb8.mono (by have := hbc.size; first | exact this | (simp [World.drew]; exact this)))) | (go_at_call 20; refine (hq2 _ (by first | exact hbc | exact Below.drew hbc)).mono ?_; rintro en w8 ⟨rfl, hb8⟩; have hbc := Below.trans (by first | exact hbc | exact Below.drew hbc) (hb8.mono (by have := hbc.size; first | exact this | (simp [World.drew]; exact this)))))
        go_wp2_with fail
        have hB2 : Below v1.heap.size v1 w8 := gb.out.1.trans (hbc.mono gb.out.1.size)
        have hdb := double_any (some ad) n c l hn (k : Int) w8 ((gr1.out.below hB2).more hB2.size)
        have hsn := fun w' (hw : Below v1.heap.size v1 w') => send_any (some ad) n c l hn xn xd xt xs Xl ml dl gml.out gxl.out w' ((gr1.out.below hw).more hw.size) (gr0.out w' hw).1
        rw [dbl_of gE.out.1 gE.out.2.1, ln] at hdb
        rw [snd_of gE.out.1 gE.out.2.1, ln] at hsn
        by_cases h16 : n = 16
        · rw [if_pos h16] at hdb hsn
          have t16 : ((n : Int) == 16) = true := by rw [h16]; rfl
          clear h16
          refine hdb.mono ?_
          rintro e v3 ⟨Ad, cd, rfl, _, _, _, hb3⟩
          simp only [List.length_nil]
          have hB3 := hB2.trans (hb3.mono hB2.size)
          obtain ⟨_, b0, b1, b2, b3⟩ := gr0.out v3 hB3
          have hsn3 := hsn v3 hB3
          clear hdb hsn
          go_wp2_with fail
          refine hsn3.mono ?_
          rintro e v4 ⟨As, cs, rfl, hcs, os, _, hb4⟩
          simp only [List.length_nil] at hcs os ⊢
          have hB4 := hB3.trans (hb4.mono hB3.size)
          clear hsn3 b0 b1 b2 b3
          go_wp2_with fail
          refine (same_any Ad As 0 0 cd cs [] [] (by omega) (by omega) (by simp) (by simp) true rfl v4 Recs.none_ os).mono ?_
          rintro e v5 ⟨rfl, hb5⟩
          have hB5 := hB1.trans ((hB4.trans (hb5.mono hB4.size)).mono hB1.size)
          go_wp2
          go_ret
          exact ⟨rfl, hB5⟩
        · rw [if_neg h16] at hdb hsn
          have h16' : l.length ≠ 16 := by rw [ln]; exact h16
          have hdl : (l ++ [(⟨xn, xd, xt, xs⟩ : Cp)]).length = n + 1 := by simp [ln]
          refine hdb.mono ?_
          rintro e v3 ⟨Ad, cd, rfl, hcd, od, _, hb3⟩
          simp only [hdl] at hcd od ⊢
          have hB3 := hB2.trans (hb3.mono hB2.size)
          obtain ⟨_, b0, b1, b2, b3⟩ := gr0.out v3 hB3
          have hsn3 := hsn v3 hB3
          clear hdb hsn
          go_wp2_with fail
          refine hsn3.mono ?_
          rintro e v4 ⟨As, cs, rfl, hcs, os, _, hb4⟩
          simp only [hdl] at hcs os ⊢
          have hB4 := hB3.trans (hb4.mono hB3.size)
          have od4 := (od.below hb4).more hb4.size
          have htD : ∀ y ∈ l ++ [(⟨xn, xd, xt, xs⟩ : Cp)], y.txt.length ≤ 10000 := by
            intro y hy
            rcases List.mem_append.1 hy with h | h
            · exact gb.out.2.2.1 y h
            · rw [List.mem_singleton.1 h]; exact gb.out.2.2.1 _ (List.mem_of_getElem? gE.out.2.1)
          have hsm := same_any Ad As (n + 1) (n + 1) cd cs _ _ (by omega) (by omega) htD htD true (by simp) v4 od4 os
          clear hsn3 b0 b1 b2 b3 htD os od
          go_wp2_with fail
          refine hsm.mono ?_
          rintro e v5 ⟨rfl, hb5⟩
          have hB5 := hB4.trans (hb5.mono hB4.size)
          have htk2 := take_any Ad (n + 1) cd _ (by omega) hcd (n : Int) v5 ((od4.below hb5).more hb5.size)
          rw [← ln, tk_last gE.out.1 gE.out.2.1 h16'] at htk2
          simp only [ln] at htk2
          clear hsm od4
          go_wp2_with fail
          refine htk2.mono ?_
          rintro e v6 ⟨Ab, cb, Xy, my, dy, K6, rfl, hcb, ob, hmy, hdy, ry, _, _, _, _, hb6⟩
          simp only [ln] at hcb ob hmy ry ⊢
          have hB6 := hB5.trans (hb6.mono hB5.size)
          obtain ⟨V6, hV6⟩ : ∃ V, V = v6.alloc (.cells #[.int .i64 xn, .int .i64 xd, .slice Xy my dy, .bool xs] 37) := ⟨_, rfl⟩
          have ky := Blk.new v6 37 #[.int .i64 xn, .int .i64 xd, .slice Xy my dy, .bool xs]
          have hbV : Below v6.heap.size v6 V6 := by rw [hV6]; exact (Below.refl _ _).alloc (Nat.le_refl _) _
          have hB7 := hB6.trans (hbV.mono hB6.size)
          have hbv0 : Below v0.heap.size v0 V6 := hb1.trans (hB7.mono hb1.size)
          have kcV := kc.below hbv0 kc.lt
          have kd0 := kcV.cell 0
          have kd1 := kcV.cell 1
          have kd2 := kcV.cell 2
          have kd3 := kcV.cell 3
          simp only [List.getElem?_toArray, List.getElem?_cons_zero, List.getElem?_cons_succ] at kd0 kd1 kd2 kd3
          have hX6 := (hX0.below hbv0).more hbv0.size
          have hsd := send_any Ar (n - 1) cr L (by omega) num dn txt sp X m d gm.out gd.out V6 ((gor.out.below hB7).more hB7.size) hX6
          have hLc := rest_chk gE.out.1 gE.out.2.2.2
          rw [← gE.out.2.2.1] at hLc
          rw [hV6] at kd0 kd1 kd2 kd3
          rw [← hV6] at ky
          clear htk2
          go_wp2_with fail
          rw [← hV6]
          clear hV6 kd0 kd1 kd2 kd3
          obtain ⟨R2, hR2⟩ : ∃ R, sndS L ⟨num, dn, txt, sp⟩ = R := ⟨_, rfl⟩
          rw [hR2] at hsd
          obtain ⟨a2, E2⟩ := R2
          have hq3 : ∀ w', Below V6.heap.size V6 w' → Calls Tryd.prog 20 #[.slice Ab n cb, .slice (some ad) n c] w' fun en w'' => en = .returned (.bool true) ∧ Below w'.heap.size w' w'' := by
            intro w' hw
            have hw0 := hbV.trans (hw.mono hbV.size)
            have hw1 := hB7.trans (hw.mono hB7.size)
            exact same_any _ _ _ _ _ _ l l (by omega) (by omega) gb.out.2.2.1 gb.out.2.2.1 true (by simp) w' ((ob.below hw0).more hw0.size) ((gr1.out.below hw1).more hw1.size)
          have hml : ml ≤ 10000 := by have := gb.out.2.2.1 _ (List.mem_of_getElem? gE.out.2.1); simp only at this; rw [gml.out] at this; exact this
          obtain rfl : my = ml := by rw [← hmy, gml.out]
          have hq4 : ∀ w', Below V6.heap.size V6 w' → Calls Tryd.prog 19 #[.agg #[.int .i64 xn, .int .i64 xd, .slice Xy my dy, .bool xs], .agg #[.int .i64 xn, .int .i64 xd, .slice Xx my dx, .bool xs]] w' fun en w'' => en = .returned (.bool true) ∧ Below w'.heap.size w' w'' := by
            intro w' hw
            have hw0 := hbV.trans (hw.mono hbV.size)
            have hw1 := hB7.trans (hw.mono hB7.size)
            exact sameOne_any xn xd xn xd Xy Xx my dy my dx xt xt xs xs hmy hmy (by omega) (by omega) gb.out.2.2.2 gb.out.2.2.2 true (by simp) w' ((ry.below hw0).more hw0.size) ((grx.out.below hw1).more hw1.size)
          have hYX : ∀ w', Below V6.heap.size V6 w' → w'.cell? ⟨v6.heap.size, 0, none⟩ = some (.int .i64 xn) ∧ w'.cell? ⟨v6.heap.size, 1, none⟩ = some (.int .i64 xd) ∧ w'.cell? ⟨v6.heap.size, 2, none⟩ = some (.slice Xy my dy) ∧ w'.cell? ⟨v6.heap.size, 3, none⟩ = some (.bool xs) ∧ w'.cell? ⟨v1.heap.size, 0, none⟩ = some (.int .i64 xn) ∧ w'.cell? ⟨v1.heap.size, 1, none⟩ = some (.int .i64 xd) ∧ w'.cell? ⟨v1.heap.size, 2, none⟩ = some (.slice Xx my dx) ∧ w'.cell? ⟨v1.heap.size, 3, none⟩ = some (.bool xs) := by
            intro w' hw
            have k5 := ky.below hw ky.lt
            have c0 := k5.cell 0
            have c1 := k5.cell 1
            have c2 := k5.cell 2
            have c3 := k5.cell 3
            simp only [List.getElem?_toArray, List.getElem?_cons_zero, List.getElem?_cons_succ] at c0 c1 c2 c3
            have hw1 : Below V1.heap.size V1 w' := hbc.trans ((((hb3.trans (hb4.mono hb3.size)).trans (hb5.mono (hb3.trans (hb4.mono hb3.size)).size)).trans (hb6.mono ((hb3.trans (hb4.mono hb3.size)).trans (hb5.mono (hb3.trans (hb4.mono hb3.size)).size)).size)).trans ((hbV.trans (hw.mono hbV.size)).mono (((hb3.trans (hb4.mono hb3.size)).trans (hb5.mono (hb3.trans (hb4.mono hb3.size)).size)).trans (hb6.mono ((hb3.trans (hb4.mono hb3.size)).trans (hb5.mono (hb3.trans (hb4.mono hb3.size)).size)).size)).size) |>.mono hbc.size)
            obtain ⟨d0, d1, d2, d3, _⟩ := SS w' hw1
            exact ⟨c0, c1, c2, c3, d0, d1, d2, d3⟩
          have gob := Lib.hid ob
          have gmy := Lib.hid hmy
          have gHw := Lib.hid h16'
          clear ob ry SS hq0 hq1 hq2 ky
          rcases snd_cases2 hLc (by have := chk_len gE.out.1; rw [gst.out]; rw [ln] at this; omega) hR2 with ⟨rfl, rfl⟩ | ⟨rfl, rfl⟩
          · clear hR2 hLc
            refine hsd.mono ?_
            rintro e v7 ⟨Aq, cq, rfl, _, _, _, hb7⟩
            simp only [List.length_nil]
            have hbc := hb7
            clear hsd
            go_wp2_with fail
            refine wp_region_noPanic ?_
            refine wp_region_held_drew (S := fun w' => w'.cell? ⟨v6.heap.size, 0, none⟩ = some (.int .i64 xn) ∧ w'.cell? ⟨v6.heap.size, 1, none⟩ = some (.int .i64 xd) ∧ w'.cell? ⟨v6.heap.size, 2, none⟩ = some (.slice Xy my dy) ∧ w'.cell? ⟨v6.heap.size, 3, none⟩ = some (.bool xs) ∧ w'.cell? ⟨v1.heap.size, 0, none⟩ = some (.int .i64 xn) ∧ w'.cell? ⟨v1.heap.size, 1, none⟩ = some (.int .i64 xd) ∧ w'.cell? ⟨v1.heap.size, 2, none⟩ = some (.slice Xx my dx) ∧ w'.cell? ⟨v1.heap.size, 3, none⟩ = some (.bool xs)) (by kernel_rfl) (hYX _ (Below.drew hbc)) (fun hHeld => ?_)
            refine wpAnyH_take (i := 0) (oi := ?o0) (v := ?v0) ?ho0 (by kernel_rfl) (by kernel_rfl) (by kernel_rfl) (fun _ _ _ h => h) (Or.inl ⟨?wn0, ?yn0⟩) (by assumption) ?rest0
            case ho0 => (simp only [List.getElem?_toArray, List.getElem?_cons_zero, List.getElem?_cons_succ]; rfl)
            case wn0 => rfl
            case yn0 => (intro w hSw; (try dsimp only at hSw); go_simp; (try with_reducible rfl))
            (try simp only [Act.put, List.setIfInBounds_toArray, List.set_cons_zero, List.set_cons_succ])
            refine wpAnyH_take (i := 1) (oi := ?o1) (v := ?v1) ?ho1 (by kernel_rfl) (by kernel_rfl) (by kernel_rfl) (fun _ _ _ h => h) (Or.inl ⟨?wn1, ?yn1⟩) (by assumption) ?rest1
            case ho1 => (simp only [List.getElem?_toArray, List.getElem?_cons_zero, List.getElem?_cons_succ]; rfl)
            case wn1 => rfl
            case yn1 => (intro w hSw; (try dsimp only at hSw); go_simp; (try with_reducible rfl))
            (try simp only [Act.put, List.setIfInBounds_toArray, List.set_cons_zero, List.set_cons_succ])
            refine wpAnyH_take (i := 2) (oi := ?o2) (v := ?v2) ?ho2 (by kernel_rfl) (by kernel_rfl) (by kernel_rfl) (fun _ _ _ h => h) (Or.inl ⟨?wn2, ?yn2⟩) (by assumption) ?rest2
            case ho2 => (simp only [List.getElem?_toArray, List.getElem?_cons_zero, List.getElem?_cons_succ]; rfl)
            case wn2 => rfl
            case yn2 => (intro w hSw; (try dsimp only at hSw); go_simp; (try with_reducible rfl))
            (try simp only [Act.put, List.setIfInBounds_toArray, List.set_cons_zero, List.set_cons_succ])
            refine wpAnyH_take (i := 3) (oi := ?o3) (v := ?v3) ?ho3 (by kernel_rfl) (by kernel_rfl) (by kernel_rfl) (fun _ _ _ h => h) (Or.inl ⟨?wn3, ?yn3⟩) (by assumption) ?rest3
            case ho3 => (simp only [List.getElem?_toArray, List.getElem?_cons_zero, List.getElem?_cons_succ]; rfl)
            case wn3 => rfl
            case yn3 => (intro w hSw; (try dsimp only at hSw); go_simp; (try with_reducible rfl))
            (try simp only [Act.put, List.setIfInBounds_toArray, List.set_cons_zero, List.set_cons_succ])
            refine wpAnyH_take (i := 4) (oi := ?o4) (v := ?v4) ?ho4 (by kernel_rfl) (by kernel_rfl) (by kernel_rfl) (fun _ _ _ h => h) (Or.inl ⟨?wn4, ?yn4⟩) (by assumption) ?rest4
            case ho4 => (simp only [List.getElem?_toArray, List.getElem?_cons_zero, List.getElem?_cons_succ]; rfl)
            case wn4 => rfl
            case yn4 => (intro w hSw; (try dsimp only at hSw); go_simp; (try with_reducible rfl))
            (try simp only [Act.put, List.setIfInBounds_toArray, List.set_cons_zero, List.set_cons_succ])
            refine wpAnyH_take (i := 5) (oi := ?o5) (v := ?v5) ?ho5 (by kernel_rfl) (by kernel_rfl) (by kernel_rfl) (fun _ _ _ h => h) (Or.inl ⟨?wn5, ?yn5⟩) (by assumption) ?rest5
            case ho5 => (simp only [List.getElem?_toArray, List.getElem?_cons_zero, List.getElem?_cons_succ]; rfl)
            case wn5 => rfl
            case yn5 => (intro w hSw; (try dsimp only at hSw); go_simp; (try with_reducible rfl))
            (try simp only [Act.put, List.setIfInBounds_toArray, List.set_cons_zero, List.set_cons_succ])
            refine wpAnyH_take (i := 6) (oi := ?o6) (v := ?v6) ?ho6 (by kernel_rfl) (by kernel_rfl) (by kernel_rfl) (fun _ _ _ h => h) (Or.inl ⟨?wn6, ?yn6⟩) (by assumption) ?rest6
            case ho6 => (simp only [List.getElem?_toArray, List.getElem?_cons_zero, List.getElem?_cons_succ]; rfl)
            case wn6 => rfl
            case yn6 => (intro w hSw; (try dsimp only at hSw); go_simp; (try with_reducible rfl))
            (try simp only [Act.put, List.setIfInBounds_toArray, List.set_cons_zero, List.set_cons_succ])
            refine wpAnyH_take (i := 7) (oi := ?o7) (v := ?v7) ?ho7 (by kernel_rfl) (by kernel_rfl) (by kernel_rfl) (fun _ _ _ h => h) (Or.inl ⟨?wn7, ?yn7⟩) (by assumption) ?rest7
            case ho7 => (simp only [List.getElem?_toArray, List.getElem?_cons_zero, List.getElem?_cons_succ]; rfl)
            case wn7 => rfl
            case yn7 => (intro w hSw; (try dsimp only at hSw); go_simp; (try with_reducible rfl))
            (try simp only [Act.put, List.setIfInBounds_toArray, List.set_cons_zero, List.set_cons_succ])
            refine wpAnyH_ready (rs := [8]) (by kernel_rfl) (by simp) ?_
            refine AllReadyH.cons (o := ?o8) ?ho8 (fun K hK => ?rest8) AllReadyH.nil
            case ho8 => (simp only [List.getElem?_toArray, List.getElem?_cons_zero, List.getElem?_cons_succ]; rfl)
            go_simp
            with_reducible refine (hq3 _ (by first | exact hbc | exact Below.drew hbc)).mono ?_
            rintro en w9 ⟨rfl, hb9⟩
            replace hbc := Below.trans (by first | exact hbc | exact Below.drew hbc) (hb9.mono (by have := hbc.size; first | exact this | (simp [World.drew]; exact this)))
            refine hK.out _ _ (hYX _ hbc) (fun hHeld => ?_)
            clear hK K
            (try simp only [Act.put, List.setIfInBounds_toArray, List.set_cons_zero, List.set_cons_succ])
            refine wpAnyH_take (i := 9) (oi := ?o9) (v := ?v9) ?ho9 (by kernel_rfl) (by kernel_rfl) (by kernel_rfl) (fun _ _ _ h => h) (Or.inl ⟨?wn9, ?yn9⟩) (by assumption) ?rest9
            case ho9 => (simp only [List.getElem?_toArray, List.getElem?_cons_zero, List.getElem?_cons_succ]; rfl)
            case wn9 => rfl
            case yn9 => (intro w hSw; (try dsimp only at hSw); go_simp; (try with_reducible rfl))
            (try simp only [Act.put, List.setIfInBounds_toArray, List.set_cons_zero, List.set_cons_succ])
            refine wpAnyH_take (i := 10) (oi := ?o10) (v := ?v10) ?ho10 (by kernel_rfl) (by kernel_rfl) (by kernel_rfl) (fun _ _ _ h => h) (Or.inl ⟨?wn10, ?yn10⟩) (by assumption) ?rest10
            case ho10 => (simp only [List.getElem?_toArray, List.getElem?_cons_zero, List.getElem?_cons_succ]; rfl)
            case wn10 => rfl
            case yn10 => (intro w hSw; (try dsimp only at hSw); go_simp; (try with_reducible rfl))
            (try simp only [Act.put, List.setIfInBounds_toArray, List.set_cons_zero, List.set_cons_succ])
            refine wpAnyH_take (i := 11) (oi := ?o11) (v := ?v11) ?ho11 (by kernel_rfl) (by kernel_rfl) (by kernel_rfl) (fun _ _ _ h => h) (Or.inl ⟨?wn11, ?yn11⟩) (by assumption) ?rest11
            case ho11 => (simp only [List.getElem?_toArray, List.getElem?_cons_zero, List.getElem?_cons_succ]; rfl)
            case wn11 => rfl
            case yn11 => (intro w hSw; (try dsimp only at hSw); go_simp; (try with_reducible rfl))
            (try simp only [Act.put, List.setIfInBounds_toArray, List.set_cons_zero, List.set_cons_succ])
            refine wpAnyH_take (i := 12) (oi := ?o12) (v := ?v12) ?ho12 (by kernel_rfl) (by kernel_rfl) (by kernel_rfl) (fun _ _ _ h => h) (Or.inl ⟨?wn12, ?yn12⟩) (by assumption) ?rest12
            case ho12 => (simp only [List.getElem?_toArray, List.getElem?_cons_zero, List.getElem?_cons_succ]; rfl)
            case wn12 => rfl
            case yn12 => (intro w hSw; (try dsimp only at hSw); go_simp; (try with_reducible rfl))
            (try simp only [Act.put, List.setIfInBounds_toArray, List.set_cons_zero, List.set_cons_succ])
            refine wpAnyH_ready (rs := [13]) (by kernel_rfl) (by simp) ?_
            refine AllReadyH.cons (o := ?o13) ?ho13 (fun K hK => ?rest13) AllReadyH.nil
            case ho13 => (simp only [List.getElem?_toArray, List.getElem?_cons_zero, List.getElem?_cons_succ]; rfl)
            go_simp
            with_reducible refine (hq4 _ (by first | exact hbc | exact Below.drew hbc)).mono ?_
            rintro en w9 ⟨rfl, hb9⟩
            replace hbc := Below.trans (by first | exact hbc | exact Below.drew hbc) (hb9.mono (by have := hbc.size; first | exact this | (simp [World.drew]; exact this)))
            refine hK.out _ _ (hYX _ hbc) (fun hHeld => ?_)
            clear hK K
            (try simp only [Act.put, List.setIfInBounds_toArray, List.set_cons_zero, List.set_cons_succ])
            refine wpAnyH_take (i := 14) (oi := ?o14) (v := ?v14) ?ho14 (by kernel_rfl) (by kernel_rfl) (by kernel_rfl) (fun _ _ _ h => h) (Or.inl ⟨?wn14, ?yn14⟩) (by assumption) ?rest14
            case ho14 => (simp only [List.getElem?_toArray, List.getElem?_cons_zero, List.getElem?_cons_succ]; rfl)
            case wn14 => rfl
            case yn14 => (intro w hSw; (try dsimp only at hSw); go_simp; (try with_reducible rfl))
            (try simp only [Act.put, List.setIfInBounds_toArray, List.set_cons_zero, List.set_cons_succ])
            refine wpAnyH_take (i := 15) (oi := ?o15) (v := ?v15) ?ho15 (by kernel_rfl) (by kernel_rfl) (by kernel_rfl) (fun _ _ _ h => h) (Or.inl ⟨?wn15, ?yn15⟩) (by assumption) ?rest15
            case ho15 => (simp only [List.getElem?_toArray, List.getElem?_cons_zero, List.getElem?_cons_succ]; rfl)
            case wn15 => rfl
            case yn15 => (intro w hSw; (try dsimp only at hSw); go_simp; (try with_reducible rfl))
            (try simp only [Act.put, List.setIfInBounds_toArray, List.set_cons_zero, List.set_cons_succ])
            refine wpAnyH_take (i := 16) (oi := ?o16) (v := ?v16) ?ho16 (by kernel_rfl) (by kernel_rfl) (by kernel_rfl) (fun _ _ _ h => h) (Or.inl ⟨?wn16, ?yn16⟩) (by assumption) ?rest16
            case ho16 => (simp only [List.getElem?_toArray, List.getElem?_cons_zero, List.getElem?_cons_succ]; rfl)
            case wn16 => rfl
            case yn16 => (intro w hSw; (try dsimp only at hSw); go_simp; (try with_reducible rfl))
            (try simp only [Act.put, List.setIfInBounds_toArray, List.set_cons_zero, List.set_cons_succ])
            refine wpAnyH_take (i := 17) (oi := ?o17) (v := ?v17) ?ho17 (by kernel_rfl) (by kernel_rfl) (by kernel_rfl) (fun _ _ _ h => h) (Or.inl ⟨?wn17, ?yn17⟩) (by assumption) ?rest17
            case ho17 => (simp only [List.getElem?_toArray, List.getElem?_cons_zero, List.getElem?_cons_succ]; rfl)
            case wn17 => rfl
            case yn17 => (intro w hSw; (try dsimp only at hSw); go_simp; (try with_reducible rfl))
            (try simp only [Act.put, List.setIfInBounds_toArray, List.set_cons_zero, List.set_cons_succ])
            refine wpAnyH_take (i := 18) (oi := ?o18) (v := ?v18) ?ho18 (by kernel_rfl) (by kernel_rfl) (by kernel_rfl) (fun _ _ _ h => h) (Or.inl ⟨?wn18, ?yn18⟩) (by assumption) ?rest18
            case ho18 => (simp only [List.getElem?_toArray, List.getElem?_cons_zero, List.getElem?_cons_succ]; rfl)
            case wn18 => rfl
            case yn18 => (intro w hSw; (try dsimp only at hSw); go_simp; (try with_reducible rfl))
            (try simp only [Act.put, List.setIfInBounds_toArray, List.set_cons_zero, List.set_cons_succ])
            refine wpAnyH_take (i := 19) (oi := ?o19) (v := undef) ?ho19 (by kernel_rfl) (by kernel_rfl) (by kernel_rfl) (fun _ _ _ h => h) (Or.inr ⟨?wn19, rfl⟩) (by assumption) ?rest19
            case ho19 => (simp only [List.getElem?_toArray, List.getElem?_cons_zero, List.getElem?_cons_succ]; rfl)
            case wn19 => rfl
            (try simp only [Act.put, List.setIfInBounds_toArray, List.set_cons_zero, List.set_cons_succ])
            refine wpAnyH_take (i := 20) (oi := ?o20) (v := undef) ?ho20 (by kernel_rfl) (by kernel_rfl) (by kernel_rfl) (fun _ _ _ h => h) (Or.inr ⟨?wn20, rfl⟩) (by assumption) ?rest20
            case ho20 => (simp only [List.getElem?_toArray, List.getElem?_cons_zero, List.getElem?_cons_succ]; rfl)
            case wn20 => rfl
            (try simp only [Act.put, List.setIfInBounds_toArray, List.set_cons_zero, List.set_cons_succ])
            refine wpAnyH_take (i := 21) (oi := ?o21) (v := undef) ?ho21 (by kernel_rfl) (by kernel_rfl) (by kernel_rfl) (fun _ _ _ h => h) (Or.inr ⟨?wn21, rfl⟩) (by assumption) ?rest21
            case ho21 => (simp only [List.getElem?_toArray, List.getElem?_cons_zero, List.getElem?_cons_succ]; rfl)
            case wn21 => rfl
            (try simp only [Act.put, List.setIfInBounds_toArray, List.set_cons_zero, List.set_cons_succ])
            refine wpAnyH_take (i := 22) (oi := ?o22) (v := undef) ?ho22 (by kernel_rfl) (by kernel_rfl) (by kernel_rfl) (fun _ _ _ h => h) (Or.inr ⟨?wn22, rfl⟩) (by assumption) ?rest22
            case ho22 => (simp only [List.getElem?_toArray, List.getElem?_cons_zero, List.getElem?_cons_succ]; rfl)
            case wn22 => rfl
            (try simp only [Act.put, List.setIfInBounds_toArray, List.set_cons_zero, List.set_cons_succ])
            refine wpAnyH_take (i := 23) (oi := ?o23) (v := undef) ?ho23 (by kernel_rfl) (by kernel_rfl) (by kernel_rfl) (fun _ _ _ h => h) (Or.inr ⟨?wn23, rfl⟩) (by assumption) ?rest23
            case ho23 => (simp only [List.getElem?_toArray, List.getElem?_cons_zero, List.getElem?_cons_succ]; rfl)
            case wn23 => rfl
            (try simp only [Act.put, List.setIfInBounds_toArray, List.set_cons_zero, List.set_cons_succ])
            refine wpAnyH_take (i := 24) (oi := ?o24) (v := undef) ?ho24 (by kernel_rfl) (by kernel_rfl) (by kernel_rfl) (fun _ _ _ h => h) (Or.inr ⟨?wn24, rfl⟩) (by assumption) ?rest24
            case ho24 => (simp only [List.getElem?_toArray, List.getElem?_cons_zero, List.getElem?_cons_succ]; rfl)
            case wn24 => rfl
            (try simp only [Act.put, List.setIfInBounds_toArray, List.set_cons_zero, List.set_cons_succ])
            refine wpAnyH_take (i := 25) (oi := ?o25) (v := undef) ?ho25 (by kernel_rfl) (by kernel_rfl) (by kernel_rfl) (fun _ _ _ h => h) (Or.inr ⟨?wn25, rfl⟩) (by assumption) ?rest25
            case ho25 => (simp only [List.getElem?_toArray, List.getElem?_cons_zero, List.getElem?_cons_succ]; rfl)
            case wn25 => rfl
            (try simp only [Act.put, List.setIfInBounds_toArray, List.set_cons_zero, List.set_cons_succ])
            refine wpAnyH_take (i := 26) (oi := ?o26) (v := undef) ?ho26 (by kernel_rfl) (by kernel_rfl) (by kernel_rfl) (fun _ _ _ h => h) (Or.inr ⟨?wn26, rfl⟩) (by assumption) ?rest26
            case ho26 => (simp only [List.getElem?_toArray, List.getElem?_cons_zero, List.getElem?_cons_succ]; rfl)
            case wn26 => rfl
            (try simp only [Act.put, List.setIfInBounds_toArray, List.set_cons_zero, List.set_cons_succ])
            refine wpAnyH_take (i := 27) (oi := ?o27) (v := undef) ?ho27 (by kernel_rfl) (by kernel_rfl) (by kernel_rfl) (fun _ _ _ h => h) (Or.inr ⟨?wn27, rfl⟩) (by assumption) ?rest27
            case ho27 => (simp only [List.getElem?_toArray, List.getElem?_cons_zero, List.getElem?_cons_succ]; rfl)
            case wn27 => rfl
            (try simp only [Act.put, List.setIfInBounds_toArray, List.set_cons_zero, List.set_cons_succ])
            refine wpAnyH_take (i := 28) (oi := ?o28) (v := undef) ?ho28 (by kernel_rfl) (by kernel_rfl) (by kernel_rfl) (fun _ _ _ h => h) (Or.inr ⟨?wn28, rfl⟩) (by assumption) ?rest28
            case ho28 => (simp only [List.getElem?_toArray, List.getElem?_cons_zero, List.getElem?_cons_succ]; rfl)
            case wn28 => rfl
            (try simp only [Act.put, List.setIfInBounds_toArray, List.set_cons_zero, List.set_cons_succ])
            refine wpAnyH_take (i := 29) (oi := ?o29) (v := undef) ?ho29 (by kernel_rfl) (by kernel_rfl) (by kernel_rfl) (fun _ _ _ h => h) (Or.inr ⟨?wn29, rfl⟩) (by assumption) ?rest29
            case ho29 => (simp only [List.getElem?_toArray, List.getElem?_cons_zero, List.getElem?_cons_succ]; rfl)
            case wn29 => rfl
            (try simp only [Act.put, List.setIfInBounds_toArray, List.set_cons_zero, List.set_cons_succ])
            refine wpAnyH_take (i := 30) (oi := ?o30) (v := undef) ?ho30 (by kernel_rfl) (by kernel_rfl) (by kernel_rfl) (fun _ _ _ h => h) (Or.inr ⟨?wn30, rfl⟩) (by assumption) ?rest30
            case ho30 => (simp only [List.getElem?_toArray, List.getElem?_cons_zero, List.getElem?_cons_succ]; rfl)
            case wn30 => rfl
            (try simp only [Act.put, List.setIfInBounds_toArray, List.set_cons_zero, List.set_cons_succ])
            refine wpAnyH_take (i := 31) (oi := ?o31) (v := undef) ?ho31 (by kernel_rfl) (by kernel_rfl) (by kernel_rfl) (fun _ _ _ h => h) (Or.inr ⟨?wn31, rfl⟩) (by assumption) ?rest31
            case ho31 => (simp only [List.getElem?_toArray, List.getElem?_cons_zero, List.getElem?_cons_succ]; rfl)
            case wn31 => rfl
            (try simp only [Act.put, List.setIfInBounds_toArray, List.set_cons_zero, List.set_cons_succ])
            refine wpAnyH_take (i := 32) (oi := ?o32) (v := undef) ?ho32 (by kernel_rfl) (by kernel_rfl) (by kernel_rfl) (fun _ _ _ h => h) (Or.inr ⟨?wn32, rfl⟩) (by assumption) ?rest32
            case ho32 => (simp only [List.getElem?_toArray, List.getElem?_cons_zero, List.getElem?_cons_succ]; rfl)
            case wn32 => rfl
            (try simp only [Act.put, List.setIfInBounds_toArray, List.set_cons_zero, List.set_cons_succ])
            refine wpAnyH_take (i := 33) (oi := ?o33) (v := undef) ?ho33 (by kernel_rfl) (by kernel_rfl) (by kernel_rfl) (fun _ _ _ h => h) (Or.inr ⟨?wn33, rfl⟩) (by assumption) ?rest33
            case ho33 => (simp only [List.getElem?_toArray, List.getElem?_cons_zero, List.getElem?_cons_succ]; rfl)
            case wn33 => rfl
            (try simp only [Act.put, List.setIfInBounds_toArray, List.set_cons_zero, List.set_cons_succ])
            refine wpAnyH_take (i := 34) (oi := ?o34) (v := ?v34) ?ho34 (by kernel_rfl) (by kernel_rfl) (by kernel_rfl) (fun _ _ _ h => h) (Or.inl ⟨?wn34, ?yn34⟩) (by assumption) ?rest34
            case ho34 => (simp only [List.getElem?_toArray, List.getElem?_cons_zero, List.getElem?_cons_succ]; rfl)
            case wn34 => rfl
            case yn34 => (intro w hSw; (try dsimp only at hSw); go_simp; (try with_reducible rfl))
            (try simp only [Act.put, List.setIfInBounds_toArray, List.set_cons_zero, List.set_cons_succ])
            refine wpAnyH_take (i := 35) (oi := ?o35) (v := ?v35) ?ho35 (by kernel_rfl) (by kernel_rfl) (by kernel_rfl) (fun _ _ _ h => h) (Or.inl ⟨?wn35, ?yn35⟩) (by assumption) ?rest35
            case ho35 => (simp only [List.getElem?_toArray, List.getElem?_cons_zero, List.getElem?_cons_succ]; rfl)
            case wn35 => rfl
            case yn35 => (intro w hSw; (try dsimp only at hSw); go_simp; (try with_reducible rfl))
            (try simp only [Act.put, List.setIfInBounds_toArray, List.set_cons_zero, List.set_cons_succ])
            refine wpAnyH_take (i := 36) (oi := ?o36) (v := ?v36) ?ho36 (by kernel_rfl) (by kernel_rfl) (by kernel_rfl) (fun _ _ _ h => h) (Or.inl ⟨?wn36, ?yn36⟩) (by assumption) ?rest36
            case ho36 => (simp only [List.getElem?_toArray, List.getElem?_cons_zero, List.getElem?_cons_succ]; rfl)
            case wn36 => rfl
            case yn36 => (intro w hSw; (try dsimp only at hSw); go_simp; (try with_reducible rfl))
            (try simp only [Act.put, List.setIfInBounds_toArray, List.set_cons_zero, List.set_cons_succ])
            refine wpAnyH_done (by kernel_rfl) ?_ _
            refine NoPanic.normal ?_
            go_wp2_with fail
            go_ret
            exact ⟨rfl, hB1.trans ((hB7.trans ((by first | exact hbc | exact Below.drew hbc : Below V6.heap.size V6 _).mono hB7.size)).mono hB1.size)⟩
          · clear hR2 hLc
            refine hsd.mono ?_
            have hal : (L ++ [(⟨num, dn, txt, sp⟩ : Cp)]).length = n := by rw [List.length_append, gst.out, List.length_singleton]; omega
            rintro e v7 ⟨Aq, cq, rfl, hcq, oq, _, hb7⟩
            simp only [hal] at hcq oq ⊢
            obtain ⟨ada, num', dn', txt', sp', Xa, ma, da, rfl, hada, hla, hxa, hxda, hra⟩ := cps_rel oq (show n - 1 < n by omega)
            rw [List.getElem?_append_right (by rw [gst.out]; omega), gst.out, Nat.sub_self] at hla
            injection hla with hla
            injection hla with e1 e2 e3 e4
            subst e1 e2 e3 e4
            obtain rfl : ma = m := by rw [← hxa, gm.out]
            have hq5 : ∀ w', Below v7.heap.size v7 w' → Calls Tryd.prog 20 #[.slice (some ada) (n - 1) cq, .slice Ar (n - 1) cr] w' fun en w'' => en = .returned (.bool true) ∧ Below w'.heap.size w' w'' := by
              intro w' hw
              have t1 := ((oq.below hw).more hw.size).take (show n - 1 ≤ n by omega)
              rw [← List.map_take, List.take_left' gst.out] at t1
              have hw1 := hB7.trans ((hb7.trans (hw.mono hb7.size)).mono hB7.size)
              exact same_any _ _ _ _ _ _ L L (by omega) (by omega) gb.out.2.1 gb.out.2.1 true (by simp) w' t1 ((gor.out.below hw1).more hw1.size)
            have hq6 : ∀ w', Below v7.heap.size v7 w' → Calls Tryd.prog 19 #[.agg #[.int .i64 num, .int .i64 dn, .slice Xa ma da, .bool sp], .agg #[.int .i64 num, .int .i64 dn, .slice X ma d, .bool sp]] w' fun en w'' => en = .returned (.bool true) ∧ Below w'.heap.size w' w'' := by
              intro w' hw
              have hw1 := hb7.trans (hw.mono hb7.size)
              exact sameOne_any num dn num dn Xa X ma da ma d txt txt sp sp hxa hxa (by omega) (by omega) gbx.out gbx.out true (by simp) w' (hra w' hw).1 ((hX6.below hw1).more hw1.size)
            have hq3' : ∀ w', Below v7.heap.size v7 w' → Calls Tryd.prog 20 #[.slice Ab n cb, .slice (some ad) n c] w' fun en w'' => en = .returned (.bool true) ∧ Below w'.heap.size w' w'' := fun w' hw => hq3 w' (hb7.trans (hw.mono hb7.size))
            have hq4' : ∀ w', Below v7.heap.size v7 w' → Calls Tryd.prog 19 #[.agg #[.int .i64 xn, .int .i64 xd, .slice Xy my dy, .bool xs], .agg #[.int .i64 xn, .int .i64 xd, .slice Xx my dx, .bool xs]] w' fun en w'' => en = .returned (.bool true) ∧ Below w'.heap.size w' w'' := fun w' hw => hq4 w' (hb7.trans (hw.mono hb7.size))
            have SA : ∀ w', Below v7.heap.size v7 w' → w'.cell? ⟨v6.heap.size, 0, none⟩ = some (.int .i64 xn) ∧ w'.cell? ⟨v6.heap.size, 1, none⟩ = some (.int .i64 xd) ∧ w'.cell? ⟨v6.heap.size, 2, none⟩ = some (.slice Xy my dy) ∧ w'.cell? ⟨v6.heap.size, 3, none⟩ = some (.bool xs) ∧ w'.cell? ⟨v1.heap.size, 0, none⟩ = some (.int .i64 xn) ∧ w'.cell? ⟨v1.heap.size, 1, none⟩ = some (.int .i64 xd) ∧ w'.cell? ⟨v1.heap.size, 2, none⟩ = some (.slice Xx my dx) ∧ w'.cell? ⟨v1.heap.size, 3, none⟩ = some (.bool xs) ∧ w'.cell? ⟨w.heap.size, 0, none⟩ = some (.int .i64 num) ∧ w'.cell? ⟨w.heap.size, 1, none⟩ = some (.int .i64 dn) ∧ w'.cell? ⟨w.heap.size, 2, none⟩ = some (.slice X ma d) ∧ w'.cell? ⟨w.heap.size, 3, none⟩ = some (.bool sp) ∧ w'.cell? (ada.add ((n - 1) * 4)) = some (.int .i64 num) ∧ w'.cell? ⟨(ada.add ((n - 1) * 4)).block, (ada.add ((n - 1) * 4)).off + 1, none⟩ = some (.int .i64 dn) ∧ w'.cell? ⟨(ada.add ((n - 1) * 4)).block, (ada.add ((n - 1) * 4)).off + 2, none⟩ = some (.slice Xa ma da) ∧ w'.cell? ⟨(ada.add ((n - 1) * 4)).block, (ada.add ((n - 1) * 4)).off + 3, none⟩ = some (.bool sp) := by
              intro w' hw
              have hw1 := hb7.trans (hw.mono hb7.size)
              obtain ⟨y0, y1, y2, y3, x0, x1, x2, x3⟩ := hYX w' hw1
              have k5 := kcV.below hw1 kcV.lt
              have c0 := k5.cell 0
              have c1 := k5.cell 1
              have c2 := k5.cell 2
              have c3 := k5.cell 3
              simp only [List.getElem?_toArray, List.getElem?_cons_zero, List.getElem?_cons_succ] at c0 c1 c2 c3
              obtain ⟨_, a0, a1, a2, a3⟩ := hra w' hw
              exact ⟨y0, y1, y2, y3, x0, x1, x2, x3, c0, c1, c2, c3, a0, a1, a2, a3⟩
            have n1 : (0 : Int) ≤ ((n - 1 : Nat) : Int) := by omega
            have n2 : ((n - 1 : Nat) : Int) < n := by omega
            have n3 : ((n - 1 : Nat) : Int) ≤ cq := by omega
            have n4 : ¬ cq = 0 := by omega
            have n5 : ((n - 1 : Nat) : Int).toNat = n - 1 := by omega
            have goq := Lib.hid oq
            have gra := Lib.hid hra
            have gsd := Lib.hid (And.intro hxa hal)
            have hbc := Below.refl v7.heap.size v7
            clear oq hra hxa hal hsd hq3 hq4 hYX
            go_wp2_with fail
            go_region_held3 (fun w' => w'.cell? ⟨v6.heap.size, 0, none⟩ = some (.int .i64 xn) ∧ w'.cell? ⟨v6.heap.size, 1, none⟩ = some (.int .i64 xd) ∧ w'.cell? ⟨v6.heap.size, 2, none⟩ = some (.slice Xy my dy) ∧ w'.cell? ⟨v6.heap.size, 3, none⟩ = some (.bool xs) ∧ w'.cell? ⟨v1.heap.size, 0, none⟩ = some (.int .i64 xn) ∧ w'.cell? ⟨v1.heap.size, 1, none⟩ = some (.int .i64 xd) ∧ w'.cell? ⟨v1.heap.size, 2, none⟩ = some (.slice Xx my dx) ∧ w'.cell? ⟨v1.heap.size, 3, none⟩ = some (.bool xs) ∧ w'.cell? ⟨w.heap.size, 0, none⟩ = some (.int .i64 num) ∧ w'.cell? ⟨w.heap.size, 1, none⟩ = some (.int .i64 dn) ∧ w'.cell? ⟨w.heap.size, 2, none⟩ = some (.slice X ma d) ∧ w'.cell? ⟨w.heap.size, 3, none⟩ = some (.bool sp) ∧ w'.cell? (ada.add ((n - 1) * 4)) = some (.int .i64 num) ∧ w'.cell? ⟨(ada.add ((n - 1) * 4)).block, (ada.add ((n - 1) * 4)).off + 1, none⟩ = some (.int .i64 dn) ∧ w'.cell? ⟨(ada.add ((n - 1) * 4)).block, (ada.add ((n - 1) * 4)).off + 2, none⟩ = some (.slice Xa ma da) ∧ w'.cell? ⟨(ada.add ((n - 1) * 4)).block, (ada.add ((n - 1) * 4)).off + 3, none⟩ = some (.bool sp)) (first | exact SA _ hbc | exact SA _ (Below.drew hbc)) (first | (go_at_call 20; (with_reducible refine (hq3' _ (by first | exact hbc | exact Below.drew hbc)).mono ?_); rintro en w9 ⟨rfl, hb9⟩; have hbc := Below.trans (by first | exact hbc | exact Below.drew hbc) (hb9.mono (by have := hbc.size; first | exact this | (simp [World.drew]; exact this)))) | (go_at_call 19; (with_reducible refine (hq4' _ (by first | exact hbc | exact Below.drew hbc)).mono ?_); rintro en w9 ⟨rfl, hb9⟩; have hbc := Below.trans (by first | exact hbc | exact Below.drew hbc) (hb9.mono (by have := hbc.size; first | exact this | (simp [World.drew]; exact this)))) | (go_at_call 20; (with_reducible refine (hq5 _ (by first | exact hbc | exact Below.drew hbc)).mono ?_); rintro en w9 ⟨rfl, hb9⟩; have hbc := Below.trans (by first | exact hbc | exact Below.drew hbc) (hb9.mono (by have := hbc.size; first | exact this | (simp [World.drew]; exact this)))) | (go_at_call 19; (with_reducible refine (hq6 _ (by first | exact hbc | exact Below.drew hbc)).mono ?_); rintro en w9 ⟨rfl, hb9⟩; have hbc := Below.trans (by first | exact hbc | exact Below.drew hbc) (hb9.mono (by have := hbc.size; first | exact this | (simp [World.drew]; exact this)))))
            go_wp2
            go_ret
            exact ⟨rfl, hB1.trans ((hB7.trans ((hb7.trans ((by first | exact hbc | exact Below.drew hbc : Below v7.heap.size v7 _).mono hb7.size)).mono hB7.size)).mono hB1.size)⟩
end Go.Proofs.YtbiodoeimbfbnaaDoor
