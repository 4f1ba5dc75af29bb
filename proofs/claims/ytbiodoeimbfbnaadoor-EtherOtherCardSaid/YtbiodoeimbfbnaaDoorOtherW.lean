/- Ether's Door: the walk of the law EtherOther. -/
import Derived.Test.YtbiodoeimbfbnaaDoorQ
import Derived.Deep.QuietTactic
import Derived.BigQuiet
namespace Go.Proofs.YtbiodoeimbfbnaaDoor
open Go.ChangeShapes Go.WideShapes Go.ChangeAt Go.RowKit
set_option linter.unusedSimpArgs false
set_option linter.unusedVariables false
set_option maxRecDepth 100000 in
set_option maxHeartbeats 16000000 in
theorem EtherOther.walk (A : Option Addr) (n c : Nat) (l : List Cp) (i a : Int) (m : Nat) (hmx : n ≤ maxLen) (hnc : n ≤ c) (hm32 : m < 4294967296) (hby : ∀ x ∈ l, ∀ b ∈ x.txt, b < 256) (w : World) (h1 : Cps w w.heap.size A n l) (hT : Tab w) :
    Calls Tryd.prog 6 #[.slice A n c, .int .i64 i, .int .i64 a, .int .u32 (m : Int)] w fun e w' => e = .returned (.bool true) ∧ Below w.heap.size w w' := by
  have ln := cps_len h1
  have hal := alive_any w hT
  have gby := Lib.hid hby
  go_enter Tryd.func6, Tryd.ntmps6
  go_wp2_with fail
  refine hal.mono ?_
  rintro e v0 ⟨rfl, hb0⟩
  replace h1 := (h1.below hb0).more hb0.size
  replace hT := hT.below hb0 hT.2
  clear hal
  go_wp2_with fail
  refine (great_any A n c l hmx v0 h1).mono ?_
  rintro e v0' ⟨G, rfl, rfl, hG⟩
  cases G with
  | true =>
    clear h1 hT gby hby hG
    go_wp2
    go_ret
    exact ⟨rfl, hb0⟩
  | false =>
    obtain ⟨h20, ht5⟩ := hG rfl
    rw [ln] at h20
    have hn : n ≤ 1000 := by omega
    clear hG
    go_wp2_with fail
    obtain ⟨R, hR⟩ : ∃ R, splS l i a m = R := ⟨_, rfl⟩
    have hsp := pspoil_any A n c l m hn hm32 hby v0 hT h1 i a
    rw [hR] at hsp
    obtain ⟨S, E⟩ := R
    rcases spl_ok hR with ⟨hE0, rfl⟩ | ⟨rfl, k, p, num, dn, txt, rfl, rfl, hl0, hkl, hE, hfit, hS⟩
    · have t1 : (E != 0) = true := bne_iff_ne.2 hE0
      clear hR h1 hT gby hby ht5
      refine hsp.mono ?_
      rintro e v1 ⟨As, cs, rfl, _, _, _, hb1⟩
      replace hb0 := hb0.trans (hb1.mono hb0.size)
      clear hb1
      simp only [List.length_nil] at *
      go_wp2
      go_ret
      exact ⟨rfl, hb0⟩
    · refine hsp.mono ?_
      have hSl : S.length = n := by rw [hS, List.length_set, ln]
      rintro e v1 ⟨As, cs, rfl, hcs, os, _, hb1⟩
      simp only [hSl] at hcs os ⊢
      have hB1 := hb0.trans (hb1.mono hb0.size)
      have r1 := (h1.below hb1).more hb1.size
      have hkn : k < n := by omega
      obtain ⟨ad, num', dn', txt', sp', X, q, d, rfl, ha0, hl1, hx0, hxd0, hr0⟩ := cps_rel r1 hkn
      rw [hl0] at hl1
      injection hl1 with hl1
      injection hl1 with e1 e2 e3 e4
      subst e1 e2 e3 e4
      obtain ⟨ads, num', dn', txt', sp', Xs, qs, ds, rfl, ha1, hl1, hxs, hxds, hrs⟩ := cps_rel os hkn
      rw [hS, List.getElem?_set_self hkl] at hl1
      injection hl1 with hl1
      injection hl1 with e1 e2 e3 e4
      subst e1 e2 e3 e4
      obtain rfl : qs = q := by rw [turned_len, hx0] at hxs; exact hxs.symm
      obtain ⟨rX, s0, s1, s2, s3⟩ := hr0 v1 (Below.refl _ _)
      obtain ⟨rXs, u0, u1, u2, u3⟩ := hrs v1 (Below.refl _ _)
      have hbt := hby _ (List.mem_of_getElem? hl0)
      have cv := fun nq => conv_str (w := v1.drewN nq) (c := d) hx0 hbt rX
      have cvs := fun nq => conv_str (w := v1.drewN nq) (c := ds) (n := qs) (by rw [turned_len, hx0]) (turned_lt p m hbt) rXs
      have h0 : m ≠ 0 := by intro e; unfold fitB at hfit; simp only [decide_eq_true_eq] at hfit; exact hfit.1 e
      have hne := str_other (turned_lt p m hbt) hbt (turned_ne (t := txt) hm32 h0 (fun j hj => by have := fit_bits hm32 hfit j hj; omega))
      have i1 : decide ((k : Int) < 0) = false := decide_eq_false (by omega)
      have i2 : decide ((n : Int) ≤ k) = false := decide_eq_false (by omega)
      have i2' : decide (n ≤ k) = false := decide_eq_false (by omega)
      have i3 : (0 : Int) ≤ k := by omega
      have i4 : (k : Int) < n := by omega
      have gl := Lib.hid (And.intro hl0 (And.intro hE hfit))
      have gS := Lib.hid hS
      have gt5 := Lib.hid ht5
      have gr1 := Lib.hid r1
      have gos := Lib.hid os
      have gT := Lib.hid hT
      have gr0 := Lib.hid hr0
      have gk0 := Lib.hid hkl
      have c16 := dbl_of hE hl0
      have d12 := spl_twice hE hl0 hkl hfit
      have d20 := fun h => spl_double hE hl0 hkl hfit h
      rw [← hS] at d12 d20
      have gd := Lib.hid (And.intro c16 (And.intro d12 d20))
      have gT1 := Lib.hid (hT.below hb1 hT.2)
      have gbS := Lib.hid (show ∀ x ∈ S, ∀ b ∈ x.txt, b < 256 by have := spl_bytes (i := (k : Int)) (a := (p : Int)) (m := m) hby; rw [hR] at this; exact this)
      have gtS := Lib.hid (show ∀ x ∈ S, x.txt.length ≤ 5000 by have := spl_txt (i := (k : Int)) (a := (p : Int)) (m := m) ht5; rw [hR] at this; exact this)
      clear c16 d12 d20 hl0 hE hfit hS ht5 hR hsp hr0 hrs h1 r1 os rX rXs hby hbt hT h0 hkl
      go_wp2_with fail
      go_quiet (fail)
      clear s0 s1 s2 s3 u0 u1 u2 u3 cv cvs hne
      go_wp2_with fail
      obtain ⟨V1, hV1⟩ : ∃ V, V = v1.drewN nq := ⟨_, rfl⟩
      have hb2 : Below v1.heap.size v1 V1 := by rw [hV1]; exact below_drewN (Below.refl _ _) nq
      rw [← hV1]
      clear hV1
      have hsp2 := pspoil_any (some ads) n cs S m hn hm32 gbS.out V1 (gT1.out.below hb2 gT1.out.2) ((gos.out.below hb2).more hb2.size) (k : Int) (p : Int)
      rw [gd.out.2.1] at hsp2
      refine hsp2.mono ?_
      rintro e v2 ⟨As2, cs2, rfl, _, _, _, hb3⟩
      simp only [List.length_nil]
      replace hb2 := hb2.trans (hb3.mono hb2.size)
      clear hb3 hsp2
      go_wp2_with fail
      have hdb := double_any (some ad) n c l hn (k : Int) v2 ((gr1.out.below hb2).more hb2.size)
      rw [gd.out.1, ln] at hdb
      by_cases h16 : n = 16
      · rw [if_pos h16] at hdb
        clear h16
        refine hdb.mono ?_
        rintro e v3 ⟨Ad, cd, rfl, _, _, _, hb3⟩
        simp only [List.length_nil]
        replace hb2 := hb2.trans (hb3.mono hb2.size)
        clear hb3 hdb
        go_wp2_with fail
        have hq1 : ∀ w', Below v1.heap.size v1 w' → Calls Tryd.prog 20 #[.slice (some ads) k cs, .slice (some ad) k c] w' fun en w'' => en = .returned (.bool true) ∧ Below w'.heap.size w' w'' := by
          intro w' hw
          have t1 := ((gos.out.below hw).more hw.size).take (show k ≤ n by omega)
          have t2 := ((gr1.out.below hw).more hw.size).take (show k ≤ n by omega)
          rw [← List.map_take] at t1 t2
          exact same_any _ _ _ _ _ _ (S.take k) (l.take k) (by omega) (by omega) (fun x hx => by have := gtS.out x (List.mem_of_mem_take hx); omega) (fun x hx => by have := gt5.out x (List.mem_of_mem_take hx); omega) true (decide_eq_true (by rw [gS.out, List.take_set_of_le (by omega)])) w' t1 t2
        have hbc := hb2
        have i5 : (k : Int) + 1 ≤ n := by omega
        have i6 : (k : Int) ≤ cs := by omega
        have i7 : (k : Int) ≤ c := by omega
        have i8 : (0 : Int) ≤ (k : Int) + 1 := by omega
        have i9 : ((k : Int) + 1).toNat = k + 1 := by omega
        have i10 : ¬ cs = 0 := by omega
        have i11 : ¬ c = 0 := by omega
        have i12 : (k : Int) + 1 ≤ cs := by omega
        have i13 : (k : Int) + 1 ≤ c := by omega
        have w9 : IntKind.i64.wrap ((k : Int) + 1) = (k : Int) + 1 := IntWalk.i64_in _ (by omega)
        obtain ⟨A3, hA3⟩ : ∃ x, (if cs = k + 1 then some ads else some (ads.add ((k + 1) * 4))) = x := ⟨_, rfl⟩
        obtain ⟨A4, hA4⟩ : ∃ x, (if c = k + 1 then some ad else some (ad.add ((k + 1) * 4))) = x := ⟨_, rfl⟩
        have hq2 : ∀ w', Below v1.heap.size v1 w' → Calls Tryd.prog 20 #[.slice A3 (n - (k + 1)) (cs - (k + 1)), .slice A4 (n - (k + 1)) (c - (k + 1))] w' fun en w'' => en = .returned (.bool true) ∧ Below w'.heap.size w' w'' := by
          intro w' hw
          have d1 := ((gos.out.below hw).more hw.size).cut (show k + 1 ≤ n by omega) hcs
          have d2 := ((gr1.out.below hw).more hw.size).cut (show k + 1 ≤ n by omega) hnc
          rw [Option.map_some, hA3, ← List.map_drop] at d1
          rw [Option.map_some, hA4, ← List.map_drop] at d2
          exact same_any _ _ _ _ _ _ (S.drop (k + 1)) (l.drop (k + 1)) (by omega) (by omega) (fun x hx => by have := gtS.out x (List.mem_of_mem_drop hx); omega) (fun x hx => by have := gt5.out x (List.mem_of_mem_drop hx); omega) true (decide_eq_true (by rw [gS.out, List.drop_set_of_lt (by omega)])) w' d1 d2
        go_region_held3 (fun _ => True) (trivial) (first | (go_at_call 20; refine (hq1 _ (by first | exact hbc | exact Below.drew hbc)).mono ?_; rintro en w8 ⟨rfl, hb8⟩; have hbc := Below.trans (by first | exact hbc | exact Below.drew hbc) (hb8.mono (by have := hbc.size; first | exact this | (simp [World.drew]; exact this)))) | (go_at_call 20; refine (hq2 _ (by first | exact hbc | exact Below.drew hbc)).mono ?_; rintro en w9 ⟨rfl, hb9⟩; have hbd := Below.trans (by first | exact hbc | exact Below.drew hbc) (hb9.mono (by have := hbc.size; first | exact this | (simp [World.drew]; exact this)))))
        go_wp2
        go_ret
        exact ⟨rfl, hB1.trans ((by first | exact hbd | exact Below.drew hbd : Below v1.heap.size v1 _).mono hB1.size)⟩
      · rw [if_neg h16] at hdb
        have h16' : l.length ≠ 16 := by rw [ln]; exact h16
        refine hdb.mono ?_
        have hdl : (l ++ [(⟨num, dn, txt, false⟩ : Cp)]).length = n + 1 := by simp [ln]
        rintro e v3 ⟨Ad, cd, rfl, hcd, od, _, hb3⟩
        simp only [hdl] at hcd od ⊢
        have hb4 := hb2.trans (hb3.mono hb2.size)
        clear hdb hb3
        go_wp2_with fail
        have hsp3 := pspoil_any Ad (n + 1) cd (l ++ [⟨num, dn, txt, false⟩]) m (by omega) hm32 (by
          intro x hx
          rcases List.mem_append.1 hx with h | h
          · exact gby.out x h
          · rw [List.mem_singleton.1 h]; exact gby.out _ (List.mem_of_getElem? gl.out.1)) v3 (gT1.out.below hb4 gT1.out.2) od (k : Int) (p : Int)
        rw [gd.out.2.2 h16'] at hsp3
        refine hsp3.mono ?_
        have hsl : (S ++ [(⟨num, dn, txt, false⟩ : Cp)]).length = n + 1 := by simp [hSl]
        rintro e v4 ⟨At, ct, rfl, hct, ot, _, hb5⟩
        simp only [← gS.out, hsl] at hct ot ⊢
        obtain ⟨adt, num', dn', txt', sp', Xt, qt, dt, rfl, hat, hlt, hxt, hxdt, hrt⟩ := cps_rel ot (show n < n + 1 by omega)
        rw [List.getElem?_append_right (by omega), hSl, Nat.sub_self] at hlt
        injection hlt with hlt
        injection hlt with e1 e2 e3 e4
        subst e1 e2 e3 e4
        obtain rfl : qt = qs := by rw [hx0] at hxt; exact hxt.symm
        have hb6 := hb4.trans (hb5.mono hb4.size)
        have SS : ∀ w', Below v4.heap.size v4 w' → w'.cell? (adt.add (n * 4)) = some (.int .i64 num) ∧ w'.cell? ⟨(adt.add (n * 4)).block, (adt.add (n * 4)).off + 1, none⟩ = some (.int .i64 dn) ∧ w'.cell? ⟨(adt.add (n * 4)).block, (adt.add (n * 4)).off + 2, none⟩ = some (.slice Xt qt dt) ∧ w'.cell? ⟨(adt.add (n * 4)).block, (adt.add (n * 4)).off + 3, none⟩ = some (.bool false) ∧ w'.cell? (ad.add (k * 4)) = some (.int .i64 num) ∧ w'.cell? ⟨(ad.add (k * 4)).block, (ad.add (k * 4)).off + 1, none⟩ = some (.int .i64 dn) ∧ w'.cell? ⟨(ad.add (k * 4)).block, (ad.add (k * 4)).off + 2, none⟩ = some (.slice X qt d) ∧ w'.cell? ⟨(ad.add (k * 4)).block, (ad.add (k * 4)).off + 3, none⟩ = some (.bool false) := fun w' hw => by
          obtain ⟨_, a0, a1, a2, a3⟩ := hrt w' hw
          obtain ⟨_, b0, b1, b2, b3⟩ := gr0.out w' (hb6.trans (hw.mono hb6.size))
          exact ⟨a0, a1, a2, a3, b0, b1, b2, b3⟩
        have hs1 : ∀ w', Below v4.heap.size v4 w' → Calls Tryd.prog 20 #[.slice (some adt) n ct, .slice (some ads) n cs] w' fun en w'' => en = .returned (.bool true) ∧ Below w'.heap.size w' w'' := by
          intro w' hw
          have t1 := ((ot.below hw).more hw.size).take (show n ≤ n + 1 by omega)
          have hw2 := hb6.trans (hw.mono hb6.size)
          have t2 := (gos.out.below hw2).more hw2.size
          rw [← List.map_take, List.take_left' hSl] at t1
          exact same_any _ _ _ _ _ _ S S (by omega) (by omega) (fun x hx => by have := gtS.out x hx; omega) (fun x hx => by have := gtS.out x hx; omega) true (by simp) w' t1 t2
        have hs2 : ∀ w', Below v4.heap.size v4 w' → Calls Tryd.prog 19 #[.agg #[.int .i64 num, .int .i64 dn, .slice Xt qt dt, .bool false], .agg #[.int .i64 num, .int .i64 dn, .slice X qt d, .bool false]] w' fun en w'' => en = .returned (.bool true) ∧ Below w'.heap.size w' w'' := by
          intro w' hw
          have hbt := gby.out _ (List.mem_of_getElem? gl.out.1)
          have hq : qt ≤ 5000 := by have := gt5.out _ (List.mem_of_getElem? gl.out.1); simp only at this; omega
          exact sameOne_any num dn num dn Xt X qt dt qt d txt txt false false hx0 hx0 (by omega) (by omega) hbt hbt true (by simp) w' (hrt w' hw).1 (gr0.out w' (hb6.trans (hw.mono hb6.size))).1
        have n1 : (0 : Int) ≤ n := by omega
        have n2 : (n : Int) < (n : Int) + 1 := by omega
        have n3 : (n : Int) ≤ ct := by omega
        have n4 : ¬ ct = 0 := by omega
        have n5 : (n : Int) < ((n + 1 : Nat) : Int) := by omega
        have got := Lib.hid ot
        have ghrt := Lib.hid hrt
        have gh16 := Lib.hid h16'
        have hbd := Below.refl v4.heap.size v4
        clear ot hrt h16 h16' hsp3 hb2 hb4 hb5
        go_wp2_with fail
        go_region_held3 (fun w' => w'.cell? (adt.add (n * 4)) = some (.int .i64 num) ∧ w'.cell? ⟨(adt.add (n * 4)).block, (adt.add (n * 4)).off + 1, none⟩ = some (.int .i64 dn) ∧ w'.cell? ⟨(adt.add (n * 4)).block, (adt.add (n * 4)).off + 2, none⟩ = some (.slice Xt qt dt) ∧ w'.cell? ⟨(adt.add (n * 4)).block, (adt.add (n * 4)).off + 3, none⟩ = some (.bool false) ∧ w'.cell? (ad.add (k * 4)) = some (.int .i64 num) ∧ w'.cell? ⟨(ad.add (k * 4)).block, (ad.add (k * 4)).off + 1, none⟩ = some (.int .i64 dn) ∧ w'.cell? ⟨(ad.add (k * 4)).block, (ad.add (k * 4)).off + 2, none⟩ = some (.slice X qt d) ∧ w'.cell? ⟨(ad.add (k * 4)).block, (ad.add (k * 4)).off + 3, none⟩ = some (.bool false)) (first | exact SS _ hbd | exact SS _ (Below.drew hbd)) (first | (go_at_call 20; refine (hs1 _ (by first | exact hbd | exact Below.drew hbd)).mono ?_; rintro en w8 ⟨rfl, hb8⟩; have hbd := Below.trans (by first | exact hbd | exact Below.drew hbd) (hb8.mono (by have := hbd.size; first | exact this | (simp [World.drew]; exact this)))) | (go_at_call 19; refine (hs2 _ (by first | exact hbd | exact Below.drew hbd)).mono ?_; rintro en w8 ⟨rfl, hb8⟩; have hbd := Below.trans (by first | exact hbd | exact Below.drew hbd) (hb8.mono (by have := hbd.size; first | exact this | (simp [World.drew]; exact this)))))
        have hb2 := hb6.trans (hbd.mono hb6.size)
        go_wp2_with fail
        have hq1 : ∀ w', Below v1.heap.size v1 w' → Calls Tryd.prog 20 #[.slice (some ads) k cs, .slice (some ad) k c] w' fun en w'' => en = .returned (.bool true) ∧ Below w'.heap.size w' w'' := by
          intro w' hw
          have t1 := ((gos.out.below hw).more hw.size).take (show k ≤ n by omega)
          have t2 := ((gr1.out.below hw).more hw.size).take (show k ≤ n by omega)
          rw [← List.map_take] at t1 t2
          exact same_any _ _ _ _ _ _ (S.take k) (l.take k) (by omega) (by omega) (fun x hx => by have := gtS.out x (List.mem_of_mem_take hx); omega) (fun x hx => by have := gt5.out x (List.mem_of_mem_take hx); omega) true (decide_eq_true (by rw [gS.out, List.take_set_of_le (by omega)])) w' t1 t2
        have hbc := hb2
        have i5 : (k : Int) + 1 ≤ n := by omega
        have i6 : (k : Int) ≤ cs := by omega
        have i7 : (k : Int) ≤ c := by omega
        have i8 : (0 : Int) ≤ (k : Int) + 1 := by omega
        have i9 : ((k : Int) + 1).toNat = k + 1 := by omega
        have i10 : ¬ cs = 0 := by omega
        have i11 : ¬ c = 0 := by omega
        have i12 : (k : Int) + 1 ≤ cs := by omega
        have i13 : (k : Int) + 1 ≤ c := by omega
        have w9 : IntKind.i64.wrap ((k : Int) + 1) = (k : Int) + 1 := IntWalk.i64_in _ (by omega)
        obtain ⟨A3, hA3⟩ : ∃ x, (if cs = k + 1 then some ads else some (ads.add ((k + 1) * 4))) = x := ⟨_, rfl⟩
        obtain ⟨A4, hA4⟩ : ∃ x, (if c = k + 1 then some ad else some (ad.add ((k + 1) * 4))) = x := ⟨_, rfl⟩
        have hq2 : ∀ w', Below v1.heap.size v1 w' → Calls Tryd.prog 20 #[.slice A3 (n - (k + 1)) (cs - (k + 1)), .slice A4 (n - (k + 1)) (c - (k + 1))] w' fun en w'' => en = .returned (.bool true) ∧ Below w'.heap.size w' w'' := by
          intro w' hw
          have d1 := ((gos.out.below hw).more hw.size).cut (show k + 1 ≤ n by omega) hcs
          have d2 := ((gr1.out.below hw).more hw.size).cut (show k + 1 ≤ n by omega) hnc
          rw [Option.map_some, hA3, ← List.map_drop] at d1
          rw [Option.map_some, hA4, ← List.map_drop] at d2
          exact same_any _ _ _ _ _ _ (S.drop (k + 1)) (l.drop (k + 1)) (by omega) (by omega) (fun x hx => by have := gtS.out x (List.mem_of_mem_drop hx); omega) (fun x hx => by have := gt5.out x (List.mem_of_mem_drop hx); omega) true (decide_eq_true (by rw [gS.out, List.drop_set_of_lt (by omega)])) w' d1 d2
        go_region_held3 (fun _ => True) (trivial) (first | (go_at_call 20; refine (hq1 _ (by first | exact hbc | exact Below.drew hbc)).mono ?_; rintro en w8 ⟨rfl, hb8⟩; have hbc := Below.trans (by first | exact hbc | exact Below.drew hbc) (hb8.mono (by have := hbc.size; first | exact this | (simp [World.drew]; exact this)))) | (go_at_call 20; refine (hq2 _ (by first | exact hbc | exact Below.drew hbc)).mono ?_; rintro en w9 ⟨rfl, hb9⟩; have hbd := Below.trans (by first | exact hbc | exact Below.drew hbc) (hb9.mono (by have := hbc.size; first | exact this | (simp [World.drew]; exact this)))))
        go_wp2
        go_ret
        exact ⟨rfl, hB1.trans ((by first | exact hbd | exact Below.drew hbd : Below v1.heap.size v1 _).mono hB1.size)⟩
end Go.Proofs.YtbiodoeimbfbnaaDoor
