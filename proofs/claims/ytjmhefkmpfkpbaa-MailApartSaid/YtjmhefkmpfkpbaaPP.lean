/- Mail: the content, whatever the kind -/
import Derived.Test.YtjmhefkmpfkpbaaPM1
import Derived.Test.YtjmhefkmpfkpbaaPN
import Derived.Test.YtjmhefkmpfkpbaaPO
import Derived.Test.YtjmhefkmpfkpbaaOpenM
namespace Go.Proofs.Ytjmhefkmpfkpbaa
open Go.ChangeShapes Go.WideShapes Go.ChangeAt Go.RowKit
set_option linter.unusedSimpArgs false
set_option linter.unusedVariables false
theorem mayd_len {d : Dy} (h : mayd d = true) : d.ls.length ≤ 40 := by
  simp only [mayd, mayD, mayL, Bool.and_eq_true, decide_eq_true_eq, List.length_map] at h
  exact h.1.1
theorem mayM_parts {m : Ms} (h : mayM m = true) : mayd m.s = true ∧ mayd m.w = true ∧ mayd m.c = true ∧ mayd m.a = true := by
  simp only [mayM, Bool.and_eq_true] at h
  exact ⟨h.1, h.2.1, h.2.2.1, h.2.2.2⟩
theorem badN_no {x : Int} (h : badN x = false) : 0 ≤ x ∧ x < 8 := by
  simp only [badN, Bool.or_eq_false_iff, decide_eq_false_iff_not] at h
  omega
theorem chkD_ok {l : List Tm} (h : chkD l = 0) : l.length ≤ 64 ∧ ∀ k, k < l.length → mayT (tz l k) = true := by
  unfold chkD at h
  by_cases h1 : 64 < l.length
  · rw [if_pos h1] at h; omega
  rw [if_neg h1] at h
  refine ⟨by omega, fun k hk => ?_⟩
  by_cases h2 : (l.any fun t => !mayT t) = true
  · rw [if_pos h2] at h; omega
  · have h3 : (l.any fun t => !mayT t) = false := by simpa using h2
    rw [List.any_eq_false] at h3
    have := h3 _ (List.mem_of_getElem? (tz_lt hk))
    simpa using this
theorem mayE_ok {b : Bool} {x y : Int} (h : mayE b x y = true) : (-2147483647 ≤ x ∧ x ≤ 2147483647) ∧ (-2147483647 ≤ y ∧ y ≤ 2147483647) := by
  unfold mayE at h
  cases b
  · simp at h
    omega
  · simp at h
    omega
theorem content_any (o : MO) (hok : okL o.x) (hb : ltL o.x) (w : World) (hr : rdL w w.heap.size o) : Calls Try.prog 26 #[aggL o] w fun en w' => ∃ X c, en = .returned (.slice X (total (conP o.x)) c) ∧ w'.ownsRow w.heap.size 5 1 (.slice X (total (conP o.x)) c) (total (conP o.x)) (u8s (flat (conP o.x))) ∧ Below w.heap.size w w' := by
  obtain ⟨⟨k1, k2, ⟨n1, n2⟩, n3, n4, n5, n6, n7, n8⟩, hm, hd, he, hl, hu⟩ := hok
  obtain ⟨m0, m1, m2, m3⟩ := mayM_parts hm
  obtain ⟨hb0, hb1, hb2, hb3⟩ := hb.1
  obtain ⟨d1, d2⟩ := chkD_ok hd
  obtain ⟨e1, e2⟩ := mayE_ok he
  have f1 := badN_no n1
  have f2 := badN_no n2
  have hc : o.x.kd = 1 ∨ o.x.kd = 2 ∨ o.x.kd = 3 ∨ o.x.kd = 4 ∨ o.x.kd = 5 ∨ o.x.kd = 6 := by omega
  obtain ⟨x, X0, c0, X1, c1, X2, c2, X3, c3, D, dc, L, lc⟩ := o
  obtain ⟨kd, fr, tt, ep, nu, ab, ⟨gs, gw, gc, ga⟩, wa, ds, eh, x1, x2, ls⟩ := x
  obtain ⟨⟨⟨_, _, _, _, r0⟩, ⟨_, _, _, _, r1⟩, ⟨_, _, _, _, r2⟩, ⟨_, _, _, _, r3⟩⟩, rd, rl⟩ := hr
  simp only at hc k1 k2 n1 n2 n3 n4 n5 n6 n7 n8 m0 m1 m2 m3 hb0 hb1 hb2 hb3 d1 d2 e1 e2 f1 f2 hl r0 r1 r2 r3 rd rl hb
  rcases hc with rfl | rfl | rfl | rfl | rfl | rfl
  · exact con1 w f1 f2 ⟨n3, n4⟩ ⟨n5, n6⟩ gs.ls gw.ls rfl rfl (mayd_len m0) (mayd_len m1) r0 r1 m0 m1 hb0 hb1
  · exact con2 w f1 f2 ⟨n3, n4⟩ ⟨n5, n6⟩ gc.ls ga.ls rfl rfl (mayd_len m2) (mayd_len m3) r2 r3 m2 m3 hb2 hb3
  · exact con3 w f1 f2 ⟨n3, n4⟩ ⟨n5, n6⟩ ⟨n7, n8⟩ gc.ls ga.ls rfl rfl (mayd_len m2) (mayd_len m3) r2 r3 m2 m3 hb2 hb3
  · exact con4 w f1 f2 ⟨n3, n4⟩ ⟨n5, n6⟩ ⟨n7, n8⟩
  · exact con5 w f1 f2 ⟨n3, n4⟩ ⟨n5, n6⟩ ds d1 rd d2
  · exact con6 w f1 f2 ⟨n3, n4⟩ ⟨n5, n6⟩ ls hl.2 rfl rl hb.2 e1 e2
end Go.Proofs.Ytjmhefkmpfkpbaa
