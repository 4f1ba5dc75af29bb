/- Door: dyad.Add -/
import Derived.Test.YtdmjdpaehnhdoaaDoorDI
import Derived.Test.YtdmjdpaehnhdoaaDoorDJ
import Derived.Test.YtdmjdpaehnhdoaaDoorDF
namespace Go.Proofs.YtdmjdpaehnhdoaaDoor
open Go.ChangeShapes Go.WideShapes Go.ChangeAt Go.RowKit
set_option linter.unusedSimpArgs false
set_option linter.unusedVariables false
/-- What a sum under way has become. -/
def AddA (a b : Dy) (e g : Nat) (w : World) (en : Ending) (w' : World) : Prop := en = .returned (.tuple #[]) ∧ ∃ (N : List Nat) (s : Bool), Blk w' g 128 (sumC s (e : Int) N) ∧ N.length = 74 ∧ (∀ x ∈ N, x < 4294967296) ∧ formE s (val 4294967296 N) e = addD a b ∧ Below g w w'
theorem sum_any (a b : Dy) (e g : Nat) (hea : a.ex.toNat ≤ e) (heb : b.ex.toNat ≤ e) (he : e ≤ 1024) (ma : a.ls.length ≤ 40) (mb : b.ls.length ≤ 40) (la : ∀ x ∈ a.ls, x < LB) (lb : ∀ x ∈ b.ls, x < LB) (L M : List Nat) (hL : L.length = 74) (hM : M.length = 74) (hLb : ∀ x ∈ L, x < 4294967296) (hMb : ∀ x ∈ M, x < 4294967296) (vL : val 4294967296 L = upD a e) (vM : val 4294967296 M = upD b e) (w : World) (k : Blk w g 128 (sumC a.neg (e : Int) L)) :
    Calls Tryd.prog 78 #[.pointer (some ⟨g, 0, none⟩), .bool b.neg, .agg (ints .u32 M).toArray] w (AddA a b e g w) := by
  have fin : ∀ (s : Bool) (V : Nat), formE s V e = addD a b → ∀ en w', AddP g s (e : Int) V w en w' → AddA a b e g w en w' := fun s V h en w' ⟨h1, N, h2, h3, h4, h5, h6⟩ => ⟨h1, N, s, h2, h3, h4, by rw [h5]; exact h, h6⟩
  by_cases hs : a.neg = b.neg
  · have h := addl_any g a.neg (e : Int) L M hL hM hLb hMb (by rw [vL, vM]; exact up_sum ma la mb lb he) w k
    rw [vL, vM] at h
    rw [← hs]
    exact h.mono (fin _ _ (add_like hea heb he hs))
  · have hn : b.neg = !a.neg := by revert hs; cases a.neg <;> cases b.neg <;> simp
    by_cases hv : upD a e < upD b e
    · have h := addu_lt g a.neg (e : Int) L M hL hM hLb hMb w k (by rw [vL, vM]; exact decide_eq_true hv)
      rw [vL, vM] at h
      rw [hn]
      exact h.mono (fin _ _ (add_lt hea heb he hn hv))
    · have h := addu_ge g a.neg (e : Int) L M hL hM hLb hMb w k (by rw [vL, vM]; exact decide_eq_false hv)
      rw [vL, vM] at h
      rw [hn]
      exact h.mono (fin _ _ (add_ge hea heb he hn hv))
/-- What dyad.Add answers. -/
def DaddP (a b : Dy) (w : World) (en : Ending) (w' : World) : Prop := Below w.heap.size w w' ∧ (((mayd a && mayd b) = false ∧ en = .returned (.tuple #[.agg #[.bool false, .slice none 0 0, .int .i64 0], .int .i64 8])) ∨ ((mayd a && mayd b) = true ∧ FrmP (addD a b) w en w'))
set_option maxRecDepth 100000 in
set_option maxHeartbeats 8000000 in
theorem dadd_any (a b : Dy) (la : ∀ x ∈ a.ls, x < LB) (lb : ∀ x ∈ b.ls, x < LB) (X X2 : Option Addr) (c c2 : Nat) (w : World) (ra : RdD w w.heap.size a.neg X a.ls.length c a.ex a) (rb : RdD w w.heap.size b.neg X2 b.ls.length c2 b.ex b) (hT : Tab w) :
    Calls Tryd.prog 52 #[.agg #[.bool a.neg, .slice X a.ls.length c, .int .i64 a.ex], .agg #[.bool b.neg, .slice X2 b.ls.length c2, .int .i64 b.ex]] w (DaddP a b w) := by
  obtain ⟨V, hV⟩ : ∃ V, V = ((w.alloc (.cells #[.bool a.neg, .slice X a.ls.length c, .int .i64 a.ex] 25)).alloc (.cells #[.bool b.neg, .slice X2 b.ls.length c2, .int .i64 b.ex] 25)).alloc (.cells #[.bool false, .slice none 0 0, .int .i64 0] 25) := ⟨_, rfl⟩
  have hB : Below w.heap.size w V := by rw [hV]; exact (((Below.refl _ _).alloc (Nat.le_refl _) _).alloc (by simp) _).alloc (by simp only [World.size_alloc]; omega) _
  have ka : Blk V w.heap.size 25 #[.bool a.neg, .slice X a.ls.length c, .int .i64 a.ex] := by rw [hV]; exact ((Blk.new w _ _).alloc _).alloc _
  have kb : Blk V (w.heap.size + 1) 25 #[.bool b.neg, .slice X2 b.ls.length c2, .int .i64 b.ex] := by rw [hV]; have h := (Blk.new (w.alloc (.cells #[.bool a.neg, .slice X a.ls.length c, .int .i64 a.ex] 25)) 25 #[.bool b.neg, .slice X2 b.ls.length c2, .int .i64 b.ex]).alloc (.cells #[.bool false, .slice none 0 0, .int .i64 0] 25); rwa [World.size_alloc] at h
  have kr : Blk V (w.heap.size + 1 + 1) 25 #[.bool false, .slice none 0 0, .int .i64 0] := by rw [hV]; have h := Blk.new ((w.alloc (.cells #[.bool a.neg, .slice X a.ls.length c, .int .i64 a.ex] 25)).alloc (.cells #[.bool b.neg, .slice X2 b.ls.length c2, .int .i64 b.ex] 25)) 25 #[.bool false, .slice none 0 0, .int .i64 0]; rwa [World.size_alloc, World.size_alloc] at h
  have hVs : V.heap.size = w.heap.size + 1 + 1 + 1 := by rw [hV]; simp
  have raV : RdD V V.heap.size a.neg X a.ls.length c a.ex a := ra.below hB hB.size
  have rbV : RdD V V.heap.size b.neg X2 b.ls.length c2 b.ex b := rb.below hB hB.size
  have hTV := hT.below hB hT.2
  obtain ⟨Qa, hQa⟩ : ∃ Q, mayd a = Q := ⟨_, rfl⟩
  obtain ⟨Qb, hQb⟩ : ∃ Q, mayd b = Q := ⟨_, rfl⟩
  have hca := dchk_any a X c Qa hQa V raV
  have a0 : V.cell? ⟨w.heap.size, 0, none⟩ = some (.bool a.neg) := by rw [ka.cell]; rfl
  have a1 : V.cell? ⟨w.heap.size, 1, none⟩ = some (.slice X a.ls.length c) := by rw [ka.cell]; rfl
  have a2 : V.cell? ⟨w.heap.size, 2, none⟩ = some (.int .i64 a.ex) := by rw [ka.cell]; rfl
  have gka := Lib.hid ka
  have gkb := Lib.hid kb
  have gkr := Lib.hid kr
  have gB := Lib.hid hB
  have grb := Lib.hid rbV
  have gra := Lib.hid raV
  have gT := Lib.hid hTV
  clear ka kb kr hB raV rbV ra rb hT hTV
  go_enter Tryd.func52, Tryd.ntmps52
  go_upto_region 1 with (fail)
  rw [← hV]
  clear hV
  go_wp2_with fail
  refine hca.mono ?_
  rintro en w1 ⟨rfl, hb1⟩
  clear a0 a1 a2
  have hB1 := gB.out.trans (hb1.mono gB.out.size)
  have hlV : w.heap.size + 1 + 1 < V.heap.size := by omega
  cases Qa with
  | false =>
    have k1 := gkr.out.below hb1 hlV
    clear hca
    have kz : Blk (((w1.setCell ⟨w.heap.size + 1 + 1, 0, none⟩ (.bool false)).setCell ⟨w.heap.size + 1 + 1, 1, none⟩ (.slice none 0 0)).setCell ⟨w.heap.size + 1 + 1, 2, none⟩ (.int .i64 0)) (w.heap.size + 1 + 1) 25 #[.bool false, .slice none 0 0, .int .i64 0] := by have h := ((k1.set_ 0 (.bool false)).set_ 1 (.slice none 0 0)).set_ 2 (.int .i64 0); simpa using h
    have hBz := ((hB1.setCell (p := ⟨w.heap.size + 1 + 1, 0, none⟩) (by show w.heap.size ≤ w.heap.size + 1 + 1; omega) (.bool false)).setCell (p := ⟨w.heap.size + 1 + 1, 1, none⟩) (by show w.heap.size ≤ w.heap.size + 1 + 1; omega) (.slice none 0 0)).setCell (p := ⟨w.heap.size + 1 + 1, 2, none⟩) (by show w.heap.size ≤ w.heap.size + 1 + 1; omega) (.int .i64 0)
    have r0 := k1.cell 0
    have r1 := k1.cell 1
    have r2 := k1.cell 2
    simp only [lgA, lgZ, lgS] at r0 r1 r2
    have f0 := k1.frozen 0
    have f1 := k1.frozen 1
    have f2 := k1.frozen 2
    go_wp2
    refine bodyPost_ret (ret_dyad rfl _ _ (w.heap.size + 1 + 1) #[.bool false, .slice none 0 0, .int .i64 0] (.int .i64 8) rfl kz (by kernel_rfl) rfl) rfl ?_
    exact ⟨hBz, .inl ⟨by rw [hQa]; rfl, rfl⟩⟩
  | true =>
    have k2 := gkb.out.below hb1 (by omega)
    have b0 : w1.cell? ⟨w.heap.size + 1, 0, none⟩ = some (.bool b.neg) := by rw [k2.cell]; rfl
    have b1 : w1.cell? ⟨w.heap.size + 1, 1, none⟩ = some (.slice X2 b.ls.length c2) := by rw [k2.cell]; rfl
    have b2 : w1.cell? ⟨w.heap.size + 1, 2, none⟩ = some (.int .i64 b.ex) := by rw [k2.cell]; rfl
    have hcb := dchk_any b X2 c2 Qb hQb w1 (grb.out.below hb1 hb1.size)
    have gk2 := Lib.hid k2
    clear hca k2
    go_wp2_with fail
    refine hcb.mono ?_
    rintro en w2 ⟨rfl, hb2⟩
    clear b0 b1 b2 hcb
    have hbV2 : Below V.heap.size V w2 := hb1.trans (hb2.mono hb1.size)
    have hB2 := gB.out.trans (hbV2.mono gB.out.size)
    cases Qb with
    | false =>
      have k3 := gkr.out.below hbV2 hlV
      have kz : Blk (((w2.setCell ⟨w.heap.size + 1 + 1, 0, none⟩ (.bool false)).setCell ⟨w.heap.size + 1 + 1, 1, none⟩ (.slice none 0 0)).setCell ⟨w.heap.size + 1 + 1, 2, none⟩ (.int .i64 0)) (w.heap.size + 1 + 1) 25 #[.bool false, .slice none 0 0, .int .i64 0] := by have h := ((k3.set_ 0 (.bool false)).set_ 1 (.slice none 0 0)).set_ 2 (.int .i64 0); simpa using h
      have hBz := ((hB2.setCell (p := ⟨w.heap.size + 1 + 1, 0, none⟩) (by show w.heap.size ≤ w.heap.size + 1 + 1; omega) (.bool false)).setCell (p := ⟨w.heap.size + 1 + 1, 1, none⟩) (by show w.heap.size ≤ w.heap.size + 1 + 1; omega) (.slice none 0 0)).setCell (p := ⟨w.heap.size + 1 + 1, 2, none⟩) (by show w.heap.size ≤ w.heap.size + 1 + 1; omega) (.int .i64 0)
      have r0 := k3.cell 0
      have r1 := k3.cell 1
      have r2 := k3.cell 2
      simp only [lgA, lgZ, lgS] at r0 r1 r2
      have f0 := k3.frozen 0
      have f1 := k3.frozen 1
      have f2 := k3.frozen 2
      go_wp2
      refine bodyPost_ret (ret_dyad rfl _ _ (w.heap.size + 1 + 1) #[.bool false, .slice none 0 0, .int .i64 0] (.int .i64 8) rfl kz (by kernel_rfl) rfl) rfl ?_
      exact ⟨hBz, .inl ⟨by rw [hQa, hQb]; rfl, rfl⟩⟩
    | true =>
      obtain ⟨ma, _, a3, a4, _, _⟩ := mayd_parts hQa
      obtain ⟨mb, _, b3, b4, _, _⟩ := mayd_parts hQb
      obtain ⟨ea, hea⟩ : ∃ ea : Nat, a.ex = (ea : Int) := ⟨a.ex.toNat, by omega⟩
      obtain ⟨eb, heb⟩ : ∃ eb : Nat, b.ex = (eb : Int) := ⟨b.ex.toNat, by omega⟩
      obtain ⟨e, he⟩ : ∃ e, max ea eb = e := ⟨_, rfl⟩
      have hmx : max (ea : Int) (eb : Int) = (e : Int) := by omega
      have ge1 : a.ex.toNat ≤ e := by omega
      have ge2 : b.ex.toNat ≤ e := by omega
      have ge3 : e ≤ 1024 := by omega
      have va : upD a e = val LB a.ls * 2 ^ (e - ea) := by unfold upD; rw [show a.ex.toNat = ea by omega]
      have vb : upD b e = val LB b.ls * 2 ^ (e - eb) := by unfold upD; rw [show b.ex.toNat = eb by omega]
      have hof := dof_any a.neg X a.ls.length c a.ls ea e (e - ea) (by omega) rfl ma (by omega) la w2 ((gra.out.below hbV2 hbV2.size).2.2.2.2)
      have hwd : ∀ w', Below V.heap.size V w' → Calls Tryd.prog 79 #[.agg #[.bool b.neg, .slice X2 b.ls.length c2, .int .i64 (eb : Int)], .int .i64 (e : Int)] w' (WidP (upD b e) w') := fun w' h => by
        rw [vb]
        exact widen_any b.neg X2 b.ls.length c2 b.ls eb e (e - eb) (by omega) rfl mb (by omega) lb w' ((grb.out.below h h.size).2.2.2.2)
      rw [show val 4294967296 a.ls * 2 ^ (e - ea) = upD a e from va.symm] at hof
      have SS : ∀ w', Below V.heap.size V w' → w'.cell? ⟨w.heap.size + 1, 0, none⟩ = some (.bool b.neg) ∧ w'.cell? ⟨w.heap.size + 1, 1, none⟩ = some (.slice X2 b.ls.length c2) ∧ w'.cell? ⟨w.heap.size + 1, 2, none⟩ = some (.int .i64 (eb : Int)) := fun w' h => by
        have k1 := gkb.out.below h (show w.heap.size + 1 < V.heap.size by omega)
        exact ⟨by rw [k1.cell]; rfl, by rw [k1.cell]; rfl, by rw [k1.cell]; exact congrArg (fun z => some (Value.int .i64 z)) heb⟩
      have kA := gka.out.below hbV2 (by omega)
      have a0 : w2.cell? ⟨w.heap.size, 0, none⟩ = some (.bool a.neg) := by rw [kA.cell]; rfl
      have a1 : w2.cell? ⟨w.heap.size, 1, none⟩ = some (.slice X a.ls.length c) := by rw [kA.cell]; rfl
      have a2 : w2.cell? ⟨w.heap.size, 2, none⟩ = some (.int .i64 (ea : Int)) := by rw [kA.cell]; exact congrArg (fun z => some (Value.int .i64 z)) hea
      obtain ⟨_, _, b2⟩ := SS w2 hbV2
      have gva := Lib.hid va
      have gvb := Lib.hid vb
      have gea := Lib.hid hea
      have geb := Lib.hid heb
      clear kA va vb hea heb he a3 a4 b3 b4 gka gkb gk2
      go_wp2_with fail
      refine hof.mono ?_
      rintro en w3 ⟨g, L, rfl, hg, kg, hLl, hLb, hLv, hb3⟩
      clear a0 a1 a2 b2 hof
      have hbV3 : Below V.heap.size V w3 := hbV2.trans (hb3.mono hbV2.size)
      have hgV : V.heap.size ≤ g := Nat.le_trans hbV2.size hg
      have hBc : Below V.heap.size V w3.drew := Below.drew hbV3
      have kgd := kg.drew
      go_wp2_with fail
      go_region_held3 (fun w' => w'.cell? ⟨w.heap.size + 1, 0, none⟩ = some (.bool b.neg) ∧ w'.cell? ⟨w.heap.size + 1, 1, none⟩ = some (.slice X2 b.ls.length c2) ∧ w'.cell? ⟨w.heap.size + 1, 2, none⟩ = some (.int .i64 (eb : Int))) (exact SS _ hBc) (first
        | (go_at_call 79; (with_reducible refine (hwd _ hBc).mono ?_); rintro en w4 ⟨M, rfl, hMl, hMb, hMv, hb4⟩; have kgd := kgd.below hb4 kgd.lt; have hBc := hBc.trans (hb4.mono hBc.size))
        | (go_at_call 78; (with_reducible refine (sum_any a b e g ge1 ge2 ge3 ma mb la lb L M hLl hMl hLb hMb hLv hMv _ kgd).mono ?_); rintro en w5 ⟨rfl, N, s, kN, hNl, hNb, hF, hb5⟩; have hBc := hBc.trans (hb5.mono hgV)))
      have hTN := gT.out.below hBc (by omega)
      have hfm := form_any g s e ge3 N hNl hNb w5 kN hTN
      rw [hF] at hfm
      have hkr := gkr.out.below hBc hlV
      have hbb := hBc
      have hmay : (mayd a && mayd b) = true := by rw [hQa, hQb]; rfl
      have gmay := Lib.hid hmay
      clear SS hwd hF hNl hNb hLl hLb hLv kN hTN hmay hQa hQb la lb gva gvb gea geb hmx
      go_wp2_with fail
      refine hfm.mono ?_
      rintro en w6 ⟨hb6, ⟨hR, rfl⟩ | ⟨d, hR, Xo, co, rfl, hco, hO⟩⟩
      · have k6 := hkr.below hb6 hkr.lt
        have hB6 := (gB.out.trans (hbb.mono gB.out.size)).trans (hb6.mono (Nat.le_trans gB.out.size hbb.size))
        clear hfm
        have kz : Blk (((w6.setCell ⟨w.heap.size + 1 + 1, 0, none⟩ (.bool false)).setCell ⟨w.heap.size + 1 + 1, 1, none⟩ (.slice none 0 0)).setCell ⟨w.heap.size + 1 + 1, 2, none⟩ (.int .i64 0)) (w.heap.size + 1 + 1) 25 #[.bool false, .slice none 0 0, .int .i64 0] := by have h := ((k6.set_ 0 (.bool false)).set_ 1 (.slice none 0 0)).set_ 2 (.int .i64 0); simpa using h
        have hBz := ((hB6.setCell (p := ⟨w.heap.size + 1 + 1, 0, none⟩) (by show w.heap.size ≤ w.heap.size + 1 + 1; omega) (.bool false)).setCell (p := ⟨w.heap.size + 1 + 1, 1, none⟩) (by show w.heap.size ≤ w.heap.size + 1 + 1; omega) (.slice none 0 0)).setCell (p := ⟨w.heap.size + 1 + 1, 2, none⟩) (by show w.heap.size ≤ w.heap.size + 1 + 1; omega) (.int .i64 0)
        have r0 := k6.cell 0
        have r1 := k6.cell 1
        have r2 := k6.cell 2
        simp only [lgA, lgZ, lgS] at r0 r1 r2
        have f0 := k6.frozen 0
        have f1 := k6.frozen 1
        have f2 := k6.frozen 2
        go_wp2
        refine bodyPost_ret (ret_dyad rfl _ _ (w.heap.size + 1 + 1) #[.bool false, .slice none 0 0, .int .i64 0] (.int .i64 10) rfl kz (by kernel_rfl) rfl) rfl ?_
        exact ⟨hBz, .inr ⟨gmay.out, hBz, .inl ⟨hR, rfl⟩⟩⟩
      · have k6 := hkr.below hb6 hkr.lt
        have hB6 := (gB.out.trans (hbb.mono gB.out.size)).trans (hb6.mono (Nat.le_trans gB.out.size hbb.size))
        have hs5 := hbb.size
        have kz : Blk (((w6.setCell ⟨w.heap.size + 1 + 1, 0, none⟩ (.bool d.neg)).setCell ⟨w.heap.size + 1 + 1, 1, none⟩ (.slice Xo d.ls.length co)).setCell ⟨w.heap.size + 1 + 1, 2, none⟩ (.int .i64 d.ex)) (w.heap.size + 1 + 1) 25 #[.bool d.neg, .slice Xo d.ls.length co, .int .i64 d.ex] := by have h := ((k6.set_ 0 (.bool d.neg)).set_ 1 (.slice Xo d.ls.length co)).set_ 2 (.int .i64 d.ex); simpa using h
        have hBz := ((hB6.setCell (p := ⟨w.heap.size + 1 + 1, 0, none⟩) (by show w.heap.size ≤ w.heap.size + 1 + 1; omega) (.bool d.neg)).setCell (p := ⟨w.heap.size + 1 + 1, 1, none⟩) (by show w.heap.size ≤ w.heap.size + 1 + 1; omega) (.slice Xo d.ls.length co)).setCell (p := ⟨w.heap.size + 1 + 1, 2, none⟩) (by show w.heap.size ≤ w.heap.size + 1 + 1; omega) (.int .i64 d.ex)
        have hOz := ((hO.far (p := ⟨w.heap.size + 1 + 1, 0, none⟩) (by show w.heap.size + 1 + 1 < w5.heap.size; omega) (.bool d.neg)).far (p := ⟨w.heap.size + 1 + 1, 1, none⟩) (by show w.heap.size + 1 + 1 < w5.heap.size; omega) (.slice Xo d.ls.length co)).far (p := ⟨w.heap.size + 1 + 1, 2, none⟩) (by show w.heap.size + 1 + 1 < w5.heap.size; omega) (.int .i64 d.ex)
        have gOz := Lib.hid (hOz.base_le (show w.heap.size ≤ w5.heap.size by omega))
        have r0 := k6.cell 0
        have r1 := k6.cell 1
        have r2 := k6.cell 2
        simp only [lgA, lgZ, lgS] at r0 r1 r2
        have f0 := k6.frozen 0
        have f1 := k6.frozen 1
        have f2 := k6.frozen 2
        clear hfm hO hOz k6 hkr
        go_wp2
        refine bodyPost_ret (ret_dyad rfl _ _ (w.heap.size + 1 + 1) #[.bool d.neg, .slice Xo d.ls.length co, .int .i64 d.ex] (.int .i64 0) rfl kz (by kernel_rfl) rfl) rfl ?_
        exact ⟨hBz, .inr ⟨gmay.out, hBz, .inr ⟨d, hR, Xo, co, rfl, hco, gOz.out⟩⟩⟩
end Go.Proofs.YtdmjdpaehnhdoaaDoor
