/- Mail: mails compared -/
import Derived.Test.YtjmhefkmpfkpbaaPF1
import Derived.Test.YtjmhefkmpfkpbaaPF2
namespace Go.Proofs.Ytjmhefkmpfkpbaa
open Go.ChangeShapes Go.WideShapes Go.ChangeAt Go.RowKit
set_option linter.unusedSimpArgs false
set_option linter.unusedVariables false
theorem ml_ne {a b : Ml} (h : ¬ (a.kd = b.kd ∧ a.fr = b.fr ∧ a.tt = b.tt ∧ a.ep = b.ep ∧ a.nu = b.nu ∧ a.ab = b.ab ∧ a.give = b.give ∧ a.wa = b.wa ∧ a.ds = b.ds ∧ a.eh = b.eh ∧ a.e1 = b.e1 ∧ a.e2 = b.e2 ∧ a.ls = b.ls)) : decide (a = b) = false := decide_eq_false (fun e => h (by subst e; exact ⟨rfl, rfl, rfl, rfl, rfl, rfl, rfl, rfl, rfl, rfl, rfl, rfl, rfl⟩))
theorem ml_eq {a b : Ml} (h : a.kd = b.kd ∧ a.fr = b.fr ∧ a.tt = b.tt ∧ a.ep = b.ep ∧ a.nu = b.nu ∧ a.ab = b.ab ∧ a.give = b.give ∧ a.wa = b.wa ∧ a.ds = b.ds ∧ a.eh = b.eh ∧ a.e1 = b.e1 ∧ a.e2 = b.e2 ∧ a.ls = b.ls) : a = b := by
  cases a; cases b
  simp only at h
  obtain ⟨h0, h1, h2, h3, h4, h5, h6, h7, h8, h9, h10, h11, h12⟩ := h
  subst h0 h1 h2 h3 h4 h5 h6 h7 h8 h9 h10 h11 h12
  rfl
theorem mlsame_any (a b : MO) (hsa : smL a.x) (hsb : smL b.x) (w : World) (ra : rdL w w.heap.size a) (rb : rdL w w.heap.size b) (R : Bool) (hR : decide (a.x = b.x) = R) : Calls Try.prog 11 #[aggL a, aggL b] w fun en w' => en = .returned (.bool R) ∧ Below w.heap.size w w' := by
  have no : ∀ h : ¬ (a.x.kd = b.x.kd ∧ a.x.fr = b.x.fr ∧ a.x.tt = b.x.tt ∧ a.x.ep = b.x.ep ∧ a.x.nu = b.x.nu ∧ a.x.ab = b.x.ab ∧ a.x.give = b.x.give ∧ a.x.wa = b.x.wa ∧ a.x.ds = b.x.ds ∧ a.x.eh = b.x.eh ∧ a.x.e1 = b.x.e1 ∧ a.x.e2 = b.x.e2 ∧ a.x.ls = b.x.ls), false = R := fun h => by rw [← hR]; exact (ml_ne h).symm
  have hm := fun (q : Bool) (hq : decide (a.x.give = b.x.give) = q) w' (h : Below w.heap.size w w') => msame_any a.x.give.s.neg a.X0 a.x.give.s.ls.length a.c0 a.x.give.s.ex a.x.give.w.neg a.X1 a.x.give.w.ls.length a.c1 a.x.give.w.ex a.x.give.c.neg a.X2 a.x.give.c.ls.length a.c2 a.x.give.c.ex a.x.give.a.neg a.X3 a.x.give.a.ls.length a.c3 a.x.give.a.ex b.x.give.s.neg b.X0 b.x.give.s.ls.length b.c0 b.x.give.s.ex b.x.give.w.neg b.X1 b.x.give.w.ls.length b.c1 b.x.give.w.ex b.x.give.c.neg b.X2 b.x.give.c.ls.length b.c2 b.x.give.c.ex b.x.give.a.neg b.X3 b.x.give.a.ls.length b.c3 b.x.give.a.ex a.x.give b.x.give hsa.1 hsb.1 w' (ra.below h h.size).1 (rb.below h h.size).1 q hq
  have hd := fun (q : Bool) (hq : decide (a.x.ds = b.x.ds) = q) w' (h : Below w.heap.size w w') => (descsame_any a.D b.D a.x.ds.length b.x.ds.length a.dc b.dc _ _ a.x.ds b.x.ds (by have := hsa.2.1; omega) w' (ra.below h h.size).2.1 (rb.below h h.size).2.1 q hq).mono (fun en w'' hh => (⟨hh.1, by obtain ⟨m, e⟩ := hh.2; rw [e]; exact below_drewN (Below.refl _ _) m⟩ : en = .returned (.bool q) ∧ Below w'.heap.size w' w''))
  have hl := fun (q : Bool) (hq : decide (a.x.ls = b.x.ls) = q) w' (h : Below w.heap.size w w') => (lequal_any a.L b.L a.x.ls.length b.x.ls.length a.lc b.lc _ _ a.x.ls b.x.ls rfl rfl hsa.2.2 hsb.2.2 w' (ra.below h h.size).2.2 (rb.below h h.size).2.2).mono (fun en w'' hh => (⟨by rw [hh.1, hq], by obtain ⟨m, e⟩ := hh.2; rw [e]; exact below_drewN (Below.refl _ _) m⟩ : en = .returned (.bool q) ∧ Below w'.heap.size w' w''))
  unfold aggL
  by_cases hkd : a.x.kd = b.x.kd
  rotate_left
  · obtain rfl := no (fun h => hkd h.1)
    exact sw0 w  (beq_eq_false_iff_ne.2 hkd)
  have d0 : (a.x.kd == b.x.kd) = true := by simp [hkd]
  by_cases hfr : a.x.fr = b.x.fr
  rotate_left
  · obtain rfl := no (fun h => hfr h.2.1)
    exact sw1 w d0 (beq_eq_false_iff_ne.2 hfr)
  have d1 : (a.x.fr == b.x.fr) = true := by simp [hfr]
  by_cases htt : a.x.tt = b.x.tt
  rotate_left
  · obtain rfl := no (fun h => htt h.2.2.1)
    exact sw2 w d0 d1 (beq_eq_false_iff_ne.2 htt)
  have d2 : (a.x.tt == b.x.tt) = true := by simp [htt]
  by_cases hep : a.x.ep = b.x.ep
  rotate_left
  · obtain rfl := no (fun h => hep h.2.2.2.1)
    exact sw3 w d0 d1 d2 (beq_eq_false_iff_ne.2 hep)
  have d3 : (a.x.ep == b.x.ep) = true := by simp [hep]
  by_cases hnu : a.x.nu = b.x.nu
  rotate_left
  · obtain rfl := no (fun h => hnu h.2.2.2.2.1)
    exact sw4 w d0 d1 d2 d3 (beq_eq_false_iff_ne.2 hnu)
  have d4 : (a.x.nu == b.x.nu) = true := by simp [hnu]
  by_cases hab : a.x.ab = b.x.ab
  rotate_left
  · obtain rfl := no (fun h => hab h.2.2.2.2.2.1)
    exact sw5 w d0 d1 d2 d3 d4 (beq_eq_false_iff_ne.2 hab)
  have d5 : (a.x.ab == b.x.ab) = true := by simp [hab]
  by_cases hg : a.x.give = b.x.give
  rotate_left
  · obtain rfl := no (fun h => hg h.2.2.2.2.2.2.1)
    exact swm w d0 d1 d2 d3 d4 d5 (hm false (decide_eq_false hg))
  have Hm := hm true (decide_eq_true hg)
  by_cases hw : a.x.wa = b.x.wa
  rotate_left
  · obtain rfl := no (fun h => hw h.2.2.2.2.2.2.2.1)
    exact sww w d0 d1 d2 d3 d4 d5 Hm (beq_eq_false_iff_ne.2 hw)
  have dw : (a.x.wa == b.x.wa) = true := by simp [hw]
  by_cases hds : a.x.ds = b.x.ds
  rotate_left
  · obtain rfl := no (fun h => hds h.2.2.2.2.2.2.2.2.1)
    exact swd w d0 d1 d2 d3 d4 d5 Hm dw (hd false (decide_eq_false hds))
  have Hd := hd true (decide_eq_true hds)
  by_cases he : a.x.eh = b.x.eh
  rotate_left
  · obtain rfl := no (fun h => he h.2.2.2.2.2.2.2.2.2.1)
    exact swe0 w d0 d1 d2 d3 d4 d5 Hm dw Hd (beq_eq_false_iff_ne.2 he)
  have y0 : (a.x.eh == b.x.eh) = true := by simp [he]
  by_cases he1 : a.x.e1 = b.x.e1
  rotate_left
  · obtain rfl := no (fun h => he1 h.2.2.2.2.2.2.2.2.2.2.1)
    exact swe1 w d0 d1 d2 d3 d4 d5 Hm dw Hd y0 (beq_eq_false_iff_ne.2 he1)
  have y1 : (a.x.e1 == b.x.e1) = true := by simp [he1]
  by_cases he2 : a.x.e2 = b.x.e2
  rotate_left
  · obtain rfl := no (fun h => he2 h.2.2.2.2.2.2.2.2.2.2.2.1)
    exact swe2 w d0 d1 d2 d3 d4 d5 Hm dw Hd y0 y1 (beq_eq_false_iff_ne.2 he2)
  have y2 : (a.x.e2 == b.x.e2) = true := by simp [he2]
  refine swl w d0 d1 d2 d3 d4 d5 Hm dw Hd y0 y1 y2 R (hl R ?_)
  rw [← hR]
  by_cases hls : a.x.ls = b.x.ls
  · rw [decide_eq_true hls, decide_eq_true (ml_eq ⟨hkd, hfr, htt, hep, hnu, hab, hg, hw, hds, he, he1, he2, hls⟩)]
  · rw [decide_eq_false hls, ml_ne (fun h => hls h.2.2.2.2.2.2.2.2.2.2.2.2)]
end Go.Proofs.Ytjmhefkmpfkpbaa
