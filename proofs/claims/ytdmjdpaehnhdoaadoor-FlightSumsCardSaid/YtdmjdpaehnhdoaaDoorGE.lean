/- Flight's Door: mail.Check -/
import Derived.Test.YtdmjdpaehnhdoaaDoorGC
import Derived.Test.YtdmjdpaehnhdoaaDoorGD
import Derived.Test.YtdmjdpaehnhdoaaDoorLKM
namespace Go.Proofs.YtdmjdpaehnhdoaaDoor
open Go.ChangeShapes Go.WideShapes Go.ChangeAt Go.RowKit
set_option linter.unusedSimpArgs false
set_option linter.unusedVariables false
def zd : Dy := ⟨false, [], 0⟩
/-- What a mail's kind uses, and nothing else. -/
def usedL (m : Ml) : Ml :=
  if m.kd = 1 then ⟨m.kd, m.fr, m.tt, m.ep, m.nu, 0, ⟨m.give.s, m.give.w, zd, zd⟩, false, [], false, 0, 0, []⟩
  else if m.kd = 2 then ⟨m.kd, m.fr, m.tt, m.ep, m.nu, 0, ⟨zd, zd, m.give.c, m.give.a⟩, false, [], false, 0, 0, []⟩
  else if m.kd = 3 then ⟨m.kd, m.fr, m.tt, m.ep, m.nu, m.ab, ⟨zd, zd, m.give.c, m.give.a⟩, false, [], false, 0, 0, []⟩
  else if m.kd = 4 then ⟨m.kd, m.fr, m.tt, m.ep, m.nu, m.ab, ⟨zd, zd, zd, zd⟩, false, [], false, 0, 0, []⟩
  else if m.kd = 5 then ⟨m.kd, m.fr, m.tt, m.ep, m.nu, 0, ⟨zd, zd, zd, zd⟩, m.wa, m.ds, false, 0, 0, []⟩
  else ⟨m.kd, m.fr, m.tt, m.ep, m.nu, 0, ⟨zd, zd, zd, zd⟩, false, [], m.eh, m.e1, m.e2, m.ls⟩
def numL (m : Ml) : Prop := 1 ≤ m.kd ∧ m.kd ≤ 6 ∧ (badN m.fr = false ∧ badN m.tt = false) ∧ 0 ≤ m.ep ∧ m.ep ≤ 65535 ∧ 0 ≤ m.nu ∧ m.nu ≤ 1048575 ∧ 0 ≤ m.ab ∧ m.ab ≤ 1048575
/-- May a mail be? -/
def okL (m : Ml) : Prop := numL m ∧ mayM m.give = true ∧ chkD m.ds = 0 ∧ mayE m.eh m.e1 m.e2 = true ∧ (rises m.ls ∧ m.ls.length ≤ 8) ∧ m = usedL m
theorem rdD_zd (w : World) (B : Nat) : RdD w B false none 0 0 0 zd := ⟨rfl, rfl, rfl, Nat.le_refl _, Reads.none_⟩
theorem usedO (o : MO) (h : smL o.x) (hk : 1 ≤ o.x.kd ∧ o.x.kd ≤ 6) (w : World) (hr : rdL w w.heap.size o) : ∃ o' : MO, o'.x = usedL o.x ∧ smL o'.x ∧ ∃ U, aggL o' = .agg U ∧ (∀ w', Below w.heap.size w w' → rdL w' w'.heap.size o' ∧ Calls Tryd.prog 67 #[aggL o] w' fun en w'' => en = .returned (.agg U) ∧ Below w'.heap.size w' w'') := by
  obtain ⟨hm, hd, hl⟩ := h
  have hc : o.x.kd = 1 ∨ o.x.kd = 2 ∨ o.x.kd = 3 ∨ o.x.kd = 4 ∨ o.x.kd = 5 ∨ o.x.kd = 6 := by omega
  obtain ⟨x, X0, c0, X1, c1, X2, c2, X3, c3, D, dc, L, lc⟩ := o
  obtain ⟨kd, fr, tt, ep, nu, ab, give, wa, ds, eh, e1, e2, ls⟩ := x
  obtain ⟨gs, gw, gc, ga⟩ := give
  simp only at hc hm hd hl
  rcases hc with rfl | rfl | rfl | rfl | rfl | rfl
  · refine ⟨⟨⟨1, fr, tt, ep, nu, 0, ⟨gs, gw, zd, zd⟩, false, [], false, 0, 0, []⟩, X0, c0, X1, c1, none, 0, none, 0, none, 0, none, 0⟩, rfl, ⟨⟨hm.1, hm.2.1, Nat.zero_le _, Nat.zero_le _⟩, Nat.zero_le _, Nat.zero_le _⟩, _, rfl, fun w' hw => ?_⟩
    have r := hr.below hw hw.size
    exact ⟨⟨⟨r.1.1, r.1.2.1, rdD_zd _ _, rdD_zd _ _⟩, Tms.none_, Reads.none_⟩, used1 w'⟩
  · refine ⟨⟨⟨2, fr, tt, ep, nu, 0, ⟨zd, zd, gc, ga⟩, false, [], false, 0, 0, []⟩, none, 0, none, 0, X2, c2, X3, c3, none, 0, none, 0⟩, rfl, ⟨⟨Nat.zero_le _, Nat.zero_le _, hm.2.2.1, hm.2.2.2⟩, Nat.zero_le _, Nat.zero_le _⟩, _, rfl, fun w' hw => ?_⟩
    have r := hr.below hw hw.size
    exact ⟨⟨⟨rdD_zd _ _, rdD_zd _ _, r.1.2.2.1, r.1.2.2.2⟩, Tms.none_, Reads.none_⟩, used2 w'⟩
  · refine ⟨⟨⟨3, fr, tt, ep, nu, ab, ⟨zd, zd, gc, ga⟩, false, [], false, 0, 0, []⟩, none, 0, none, 0, X2, c2, X3, c3, none, 0, none, 0⟩, rfl, ⟨⟨Nat.zero_le _, Nat.zero_le _, hm.2.2.1, hm.2.2.2⟩, Nat.zero_le _, Nat.zero_le _⟩, _, rfl, fun w' hw => ?_⟩
    have r := hr.below hw hw.size
    exact ⟨⟨⟨rdD_zd _ _, rdD_zd _ _, r.1.2.2.1, r.1.2.2.2⟩, Tms.none_, Reads.none_⟩, used3 w'⟩
  · refine ⟨⟨⟨4, fr, tt, ep, nu, ab, ⟨zd, zd, zd, zd⟩, false, [], false, 0, 0, []⟩, none, 0, none, 0, none, 0, none, 0, none, 0, none, 0⟩, rfl, ⟨⟨Nat.zero_le _, Nat.zero_le _, Nat.zero_le _, Nat.zero_le _⟩, Nat.zero_le _, Nat.zero_le _⟩, _, rfl, fun w' hw => ?_⟩
    have r := hr.below hw hw.size
    exact ⟨⟨⟨rdD_zd _ _, rdD_zd _ _, rdD_zd _ _, rdD_zd _ _⟩, Tms.none_, Reads.none_⟩, used4 w'⟩
  · refine ⟨⟨⟨5, fr, tt, ep, nu, 0, ⟨zd, zd, zd, zd⟩, wa, ds, false, 0, 0, []⟩, none, 0, none, 0, none, 0, none, 0, D, dc, none, 0⟩, rfl, ⟨⟨Nat.zero_le _, Nat.zero_le _, Nat.zero_le _, Nat.zero_le _⟩, hd, Nat.zero_le _⟩, _, rfl, fun w' hw => ?_⟩
    have r := hr.below hw hw.size
    exact ⟨⟨⟨rdD_zd _ _, rdD_zd _ _, rdD_zd _ _, rdD_zd _ _⟩, r.2.1, Reads.none_⟩, used5 w'⟩
  · refine ⟨⟨⟨6, fr, tt, ep, nu, 0, ⟨zd, zd, zd, zd⟩, false, [], eh, e1, e2, ls⟩, none, 0, none, 0, none, 0, none, 0, none, 0, L, lc⟩, rfl, ⟨⟨Nat.zero_le _, Nat.zero_le _, Nat.zero_le _, Nat.zero_le _⟩, Nat.zero_le _, hl⟩, _, rfl, fun w' hw => ?_⟩
    have r := hr.below hw hw.size
    exact ⟨⟨⟨rdD_zd _ _, rdD_zd _ _, rdD_zd _ _, rdD_zd _ _⟩, Tms.none_, r.2.2⟩, used6 w'⟩
theorem check_any (o : MO) (h : smL o.x) (w : World) (hr : rdL w w.heap.size o) : Calls Tryd.prog 35 #[aggL o] w fun en w' => ∃ E, en = .returned (.int .i64 E) ∧ ((okL o.x ∧ E = 0) ∨ (¬ okL o.x ∧ E = 100)) ∧ Below w.heap.size w w' := by
  have no : ∀ {en : Ending} {w' : World}, ¬ okL o.x → (en = .returned (.int .i64 100) ∧ Below w.heap.size w w') → ∃ E, en = .returned (.int .i64 E) ∧ ((okL o.x ∧ E = 0) ∨ (¬ okL o.x ∧ E = 100)) ∧ Below w.heap.size w w' := fun h hh => ⟨100, hh.1, .inr ⟨h, rfl⟩, hh.2⟩
  have nn : ∀ P : Prop, (numL o.x → P) → ¬ P → ¬ okL o.x := fun P h1 h2 h3 => h2 (h1 h3.1)
  by_cases n0 : o.x.kd < 1
  · exact (ckn0 w (decide_eq_true n0)).mono fun en w' => no (fun hh => by have := hh.1.1; omega)
  have c0 := decide_eq_false n0
  by_cases n1 : (6 : Int) < o.x.kd
  · exact (ckn1 w c0 (decide_eq_true n1)).mono fun en w' => no (fun hh => by have := hh.1.2.1; omega)
  have c1 := decide_eq_false n1
  by_cases n2 : badN o.x.fr = false ∧ badN o.x.tt = false
  rotate_left
  · exact (ckn2 w c0 c1 (by
      cases e : badN o.x.fr
      · cases e2 : badN o.x.tt
        · exact absurd ⟨e, e2⟩ n2
        · exact .inr rfl
      · exact .inl rfl)).mono fun en w' => no (fun hh => n2 hh.1.2.2.1)
  by_cases n3 : o.x.ep < 0
  · exact (ckn3 w c0 c1 n2 (decide_eq_true n3)).mono fun en w' => no (fun hh => by have := hh.1.2.2.2; omega)
  have c3 := decide_eq_false n3
  by_cases n4 : (65535 : Int) < o.x.ep
  · exact (ckn4 w c0 c1 n2 c3 (decide_eq_true n4)).mono fun en w' => no (fun hh => by have := hh.1.2.2.2; omega)
  have c4 := decide_eq_false n4
  by_cases n5 : o.x.nu < 0
  · exact (ckn5 w c0 c1 n2 c3 c4 (decide_eq_true n5)).mono fun en w' => no (fun hh => by have := hh.1.2.2.2; omega)
  have c5 := decide_eq_false n5
  by_cases n6 : (1048575 : Int) < o.x.nu
  · exact (ckn6 w c0 c1 n2 c3 c4 c5 (decide_eq_true n6)).mono fun en w' => no (fun hh => by have := hh.1.2.2.2; omega)
  have c6 := decide_eq_false n6
  by_cases n7 : o.x.ab < 0
  · exact (ckn7 w c0 c1 n2 c3 c4 c5 c6 (decide_eq_true n7)).mono fun en w' => no (fun hh => by have := hh.1.2.2.2; omega)
  have c7 := decide_eq_false n7
  by_cases n8 : (1048575 : Int) < o.x.ab
  · exact (ckn8 w c0 c1 n2 c3 c4 c5 c6 c7 (decide_eq_true n8)).mono fun en w' => no (fun hh => by have := hh.1.2.2.2; omega)
  have c8 := decide_eq_false n8
  have hnum : numL o.x := ⟨by omega, by omega, n2, by omega, by omega, by omega, by omega, by omega, by omega⟩
  have cm := fun (Q : Bool) (hQ : mayM o.x.give = Q) w' (hw : Below w.heap.size w w') => mcheck_any o.x.give.s.neg o.X0 o.x.give.s.ls.length o.c0 o.x.give.s.ex o.x.give.w.neg o.X1 o.x.give.w.ls.length o.c1 o.x.give.w.ex o.x.give.c.neg o.X2 o.x.give.c.ls.length o.c2 o.x.give.c.ex o.x.give.a.neg o.X3 o.x.give.a.ls.length o.c3 o.x.give.a.ex o.x.give w' (hr.below hw hw.size).1 Q hQ
  by_cases hm : mayM o.x.give = true
  rotate_left
  · exact (ckt0 w c0 c1 n2 c3 c4 c5 c6 c7 c8 (fun w' hw => by simpa using cm false (by simpa using hm) w' hw)).mono fun en w' => no (fun hh => hm hh.2.1)
  have Cm := fun w' hw => (by simpa using cm true hm w' hw : Calls Tryd.prog 54 _ w' fun en w'' => en = .returned (.int .i64 0) ∧ Below w'.heap.size w' w'')
  have cd := fun w' (hw : Below w.heap.size w w') => dscheck_any o.D o.x.ds.length o.dc o.x.ds h.2.1 w' (hr.below hw hw.size).2.1 _ rfl
  by_cases hd : chkD o.x.ds = 0
  rotate_left
  · exact (ckt1 w c0 c1 n2 c3 c4 c5 c6 c7 c8 Cm (chkD o.x.ds) (by simpa using hd) cd).mono fun en w' => no (fun hh => hd hh.2.2.1)
  rw [hd] at cd
  have ce := fun w' (_ : Below w.heap.size w w') => edge_any o.x.eh o.x.e1 o.x.e2 w' _ rfl
  by_cases he : mayE o.x.eh o.x.e1 o.x.e2 = true
  rotate_left
  · rw [show mayE o.x.eh o.x.e1 o.x.e2 = false by simpa using he] at ce
    exact (ckt2 w c0 c1 n2 c3 c4 c5 c6 c7 c8 Cm cd ce).mono fun en w' => no (fun hh => he hh.2.2.2.1)
  rw [he] at ce
  have cl := fun w' (hw : Below w.heap.size w w') => least_any o.L o.x.ls.length o.lc _ o.x.ls rfl h.2.2 w' (hr.below hw hw.size).2.2
  by_cases hl : rises o.x.ls ∧ o.x.ls.length ≤ 8
  rotate_left
  · exact (ckt3 w c0 c1 n2 c3 c4 c5 c6 c7 c8 Cm cd ce (fun w' hw => (cl w' hw).mono (fun en w'' hh => by
      obtain ⟨R, rfl, hR, m, rfl⟩ := hh
      obtain rfl : R = false := by
        cases R
        · rfl
        · exact absurd (hR.1 rfl) hl
      exact ⟨rfl, below_drewN (Below.refl _ _) m⟩))).mono fun en w' => no (fun hh => hl hh.2.2.2.2.1)
  have Cl : ∀ w', Below w.heap.size w w' → Calls Tryd.prog 65 #[.slice o.L o.x.ls.length o.lc] w' fun en w'' => en = .returned (.bool true) ∧ Below w'.heap.size w' w'' := fun w' hw => (cl w' hw).mono (fun en w'' hh => by
    obtain ⟨R, rfl, hR, m, rfl⟩ := hh
    obtain rfl : R = true := hR.2 hl
    exact ⟨rfl, below_drewN (Below.refl _ _) m⟩)
  obtain ⟨o', hx, hs, U, hU, hu⟩ := usedO o h ⟨by omega, by omega⟩ w hr
  have hsame := fun w' (hw : Below w.heap.size w w') => mlsame_any o o' h hs w' (hr.below hw hw.size) (hu w' hw).1 _ rfl
  rw [hU] at hsame
  refine (ckt4 w c0 c1 n2 c3 c4 c5 c6 c7 c8 Cm cd ce Cl U (decide (o.x = o'.x)) _ rfl (fun w' hw => (hu w' hw).2) hsame).mono fun en w' hh => ⟨_, hh.1, ?_, hh.2⟩
  rw [hx]
  by_cases hq : o.x = usedL o.x
  · exact .inl ⟨⟨hnum, hm, hd, he, hl, hq⟩, by rw [decide_eq_true hq]; rfl⟩
  · exact .inr ⟨fun hh => hq hh.2.2.2.2.2, by rw [decide_eq_false hq]; rfl⟩
end Go.Proofs.YtdmjdpaehnhdoaaDoor
