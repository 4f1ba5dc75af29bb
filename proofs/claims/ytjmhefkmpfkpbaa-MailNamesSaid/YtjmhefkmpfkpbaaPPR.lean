/- Mail: the content, whatever the kind | Mail: a mail's text tells the mail (plain) | Mail: mail.Write -/
import Derived.Deep.RegionHeld3
import Derived.Test.YtjmhefkmpfkpbaaPM1
import Derived.Test.YtjmhefkmpfkpbaaPNO
import Derived.Test.YtjmhefkmpfkpbaaOpenM
import Derived.Test.YtjmhefkmpfkpbaaR
import Derived.Test.YtjmhefkmpfkpbaaPutW
namespace Go.Proofs.Ytjmhefkmpfkpbaa
open Go.ChangeShapes Go.WideShapes Go.ChangeAt Go.RowKit
set_option linter.unusedSimpArgs false
set_option linter.unusedVariables false
theorem mayd_len {d : Dy} (h : mayd d = true) : d.ls.length ≤ 40 := by
  simp only [mayd, mayD, mayL, Bool.and_eq_true, decide_eq_true_eq, List.length_map] at h
  exact h.1.1
theorem mayM_parts {m : Ms} (h : mayM m = true) : mayd m.s = true ∧ mayd m.w = true ∧ mayd m.c = true ∧ mayd m.a = true := by
  simp only [mayM, Bool.and_eq_true] at h
  exact ⟨h.1, h.2.1, h.2.2.1, h.2.2.2⟩
theorem badN_no {x : Int} (h : badN x = false) : 0 ≤ x ∧ x < 8 := by
  simp only [badN, Bool.or_eq_false_iff, decide_eq_false_iff_not] at h
  omega
theorem chkD_ok {l : List Tm} (h : chkD l = 0) : l.length ≤ 64 ∧ ∀ k, k < l.length → mayT (tz l k) = true := by
  unfold chkD at h
  by_cases h1 : 64 < l.length
  · rw [if_pos h1] at h; omega
  rw [if_neg h1] at h
  refine ⟨by omega, fun k hk => ?_⟩
  by_cases h2 : (l.any fun t => !mayT t) = true
  · rw [if_pos h2] at h; omega
  · have h3 : (l.any fun t => !mayT t) = false := by simpa using h2
    rw [List.any_eq_false] at h3
    have := h3 _ (List.mem_of_getElem? (tz_lt hk))
    simpa using this
theorem mayE_ok {b : Bool} {x y : Int} (h : mayE b x y = true) : (-2147483647 ≤ x ∧ x ≤ 2147483647) ∧ (-2147483647 ≤ y ∧ y ≤ 2147483647) := by
  unfold mayE at h
  cases b
  · simp at h
    omega
  · simp at h
    omega
theorem content_any (o : MO) (hok : okL o.x) (hb : ltL o.x) (w : World) (hr : rdL w w.heap.size o) : Calls Try.prog 26 #[aggL o] w fun en w' => ∃ X c, en = .returned (.slice X (total (conP o.x)) c) ∧ w'.ownsRow w.heap.size 5 1 (.slice X (total (conP o.x)) c) (total (conP o.x)) (u8s (flat (conP o.x))) ∧ Below w.heap.size w w' := by
  obtain ⟨⟨k1, k2, ⟨n1, n2⟩, n3, n4, n5, n6, n7, n8⟩, hm, hd, he, hl, hu⟩ := hok
  obtain ⟨m0, m1, m2, m3⟩ := mayM_parts hm
  obtain ⟨hb0, hb1, hb2, hb3⟩ := hb.1
  obtain ⟨d1, d2⟩ := chkD_ok hd
  obtain ⟨e1, e2⟩ := mayE_ok he
  have f1 := badN_no n1
  have f2 := badN_no n2
  have hc : o.x.kd = 1 ∨ o.x.kd = 2 ∨ o.x.kd = 3 ∨ o.x.kd = 4 ∨ o.x.kd = 5 ∨ o.x.kd = 6 := by omega
  obtain ⟨x, X0, c0, X1, c1, X2, c2, X3, c3, D, dc, L, lc⟩ := o
  obtain ⟨kd, fr, tt, ep, nu, ab, ⟨gs, gw, gc, ga⟩, wa, ds, eh, x1, x2, ls⟩ := x
  obtain ⟨⟨⟨_, _, _, _, r0⟩, ⟨_, _, _, _, r1⟩, ⟨_, _, _, _, r2⟩, ⟨_, _, _, _, r3⟩⟩, rd, rl⟩ := hr
  simp only at hc k1 k2 n1 n2 n3 n4 n5 n6 n7 n8 m0 m1 m2 m3 hb0 hb1 hb2 hb3 d1 d2 e1 e2 f1 f2 hl r0 r1 r2 r3 rd rl hb
  rcases hc with rfl | rfl | rfl | rfl | rfl | rfl
  · exact con1 w f1 f2 ⟨n3, n4⟩ ⟨n5, n6⟩ gs.ls gw.ls rfl rfl (mayd_len m0) (mayd_len m1) r0 r1 m0 m1 hb0 hb1
  · exact con2 w f1 f2 ⟨n3, n4⟩ ⟨n5, n6⟩ gc.ls ga.ls rfl rfl (mayd_len m2) (mayd_len m3) r2 r3 m2 m3 hb2 hb3
  · exact con3 w f1 f2 ⟨n3, n4⟩ ⟨n5, n6⟩ ⟨n7, n8⟩ gc.ls ga.ls rfl rfl (mayd_len m2) (mayd_len m3) r2 r3 m2 m3 hb2 hb3
  · exact con4 w f1 f2 ⟨n3, n4⟩ ⟨n5, n6⟩ ⟨n7, n8⟩
  · exact con5 w f1 f2 ⟨n3, n4⟩ ⟨n5, n6⟩ ds d1 rd d2
  · exact con6 w f1 f2 ⟨n3, n4⟩ ⟨n5, n6⟩ ls hl.2 rfl rl hb.2 e1 e2
end Go.Proofs.Ytjmhefkmpfkpbaa
namespace Go.Proofs.Ytjmhefkmpfkpbaa
open Go.ChangeShapes Go.WideShapes Go.ChangeAt Go.RowKit
set_option linter.unusedSimpArgs false
set_option linter.unusedVariables false
theorem digs_inj {x y s : Nat} (hx : x < 256 ^ s) (hy : y < 256 ^ s) (h : digs x s = digs y s) : x = y := by
  have h1 := numI_digs s x
  have h2 := numI_digs s y
  rw [h, h2, Nat.mod_eq_of_lt hx, Nat.mod_eq_of_lt hy] at h1
  omega
theorem flat_cons {x y s : Nat} {r t : List (Nat × Nat)} (hp : x < 256 ^ s) (hq : y < 256 ^ s) (h : flat ((x, s) :: r) = flat ((y, s) :: t)) : x = y ∧ flat r = flat t := by
  rw [flat, flat] at h
  obtain ⟨h1, h2⟩ := List.append_inj h (by rw [digs_len, digs_len])
  exact ⟨digs_inj hp hq h1, h2⟩
/-- Rows of parts of one shape. -/
theorem flat_map {α : Type} (f : α → Nat) (P : α → Prop) (hP : ∀ x, P x → f x < 256 ^ 4) (hi : ∀ x y, P x → P y → f x = f y → x = y) : ∀ (l k : List α) (r t : List (Nat × Nat)), l.length = k.length → (∀ x ∈ l, P x) → (∀ x ∈ k, P x) → flat (l.map (fun x => (f x, 4)) ++ r) = flat (k.map (fun x => (f x, 4)) ++ t) → l = k ∧ flat r = flat t
  | [], [], r, t, _, _, _, h => ⟨rfl, h⟩
  | [], b :: k, r, t, hl, _, _, h => by simp at hl
  | a :: l, [], r, t, hl, _, _, h => by simp at hl
  | a :: l, b :: k, r, t, hl, h1, h2, h => by
    obtain ⟨e1, e2⟩ := flat_cons (hP a (h1 a (by simp))) (hP b (h2 b (by simp))) h
    obtain ⟨e3, e4⟩ := flat_map f P hP hi l k r t (by simpa using hl) (fun x hx => h1 x (by simp [hx])) (fun x hx => h2 x (by simp [hx])) e2
    exact ⟨by rw [e3, hi a b (h1 a (by simp)) (h2 b (by simp)) e1], e4⟩
theorem mayd_ex {d : Dy} (h : mayd d = true) : 0 ≤ d.ex ∧ d.ex ≤ 1024 := by
  simp only [mayd, mayD, Bool.and_eq_true, decide_eq_true_eq] at h
  exact ⟨h.2.1, h.2.2.1⟩
theorem ptD_inj {d k : Dy} {r t : List (Nat × Nat)} (hd : mayd d = true) (hk : mayd k = true) (bd : ∀ x ∈ d.ls, x < 4294967296) (bk : ∀ x ∈ k.ls, x < 4294967296) (h : flat (ptD d ++ r) = flat (ptD k ++ t)) : d = k ∧ flat r = flat t := by
  have l1 := mayd_len hd
  have l2 := mayd_len hk
  have e1 := mayd_ex hd
  have e2 := mayd_ex hk
  obtain ⟨g, l, e⟩ := d
  obtain ⟨g', l', e'⟩ := k
  simp only at l1 l2 e1 e2 bd bk
  simp only [ptD, ptsD, List.cons_append, List.length_map, List.map_map] at h
  obtain ⟨q1, h⟩ := flat_cons (show (if g = true then 1 else 0) < 256 ^ 1 by cases g <;> decide) (show (if g' = true then 1 else 0) < 256 ^ 1 by cases g' <;> decide) h
  obtain ⟨q2, h⟩ := flat_cons (show e.toNat < 256 ^ 2 by omega) (show e'.toNat < 256 ^ 2 by omega) h
  obtain ⟨q3, h⟩ := flat_cons (show l.length < 256 ^ 1 by omega) (show l'.length < 256 ^ 1 by omega) h
  obtain ⟨q4, h9⟩ := flat_map (fun x : Nat => ((Int.ofNat x).toNat)) (fun x => x < 4294967296) (fun x hx => by show (Int.ofNat x).toNat < 256 ^ 4; simp; omega) (fun x y _ _ hxy => by simpa using hxy) l l' r t q3 bd bk h
  subst q4
  obtain rfl : g = g' := by cases g <;> cases g' <;> simp at q1 <;> rfl
  obtain rfl : e = e' := by omega
  exact ⟨rfl, h9⟩
theorem dsP_inj : ∀ (l k : List Tm), l.length = k.length → (∀ i, i < l.length → mayT (tz l i) = true) → (∀ i, i < k.length → mayT (tz k i) = true) → flat (dsP l) = flat (dsP k) → l = k
  | [], [], _, _, _, h => rfl
  | [], b :: k, hl, _, _, h => by simp at hl
  | a :: l, [], hl, _, _, h => by simp at hl
  | a :: l, b :: k, hl, h1, h2, h => by
    have ha := h1 0 (by simp)
    have hb := h2 0 (by simp)
    simp only [tz, List.getD_cons_zero, mayT, Bool.and_eq_true, decide_eq_true_eq] at ha hb
    rw [show dsP (a :: l) = (a.1.toNat, 1) :: (a.2.toNat, 4) :: dsP l from rfl, show dsP (b :: k) = (b.1.toNat, 1) :: (b.2.toNat, 4) :: dsP k from rfl] at h
    obtain ⟨q1, h⟩ := flat_cons (show a.1.toNat < 256 ^ 1 by omega) (show b.1.toNat < 256 ^ 1 by omega) h
    obtain ⟨q2, h⟩ := flat_cons (show a.2.toNat < 256 ^ 4 by omega) (show b.2.toNat < 256 ^ 4 by omega) h
    have e := dsP_inj l k (by simpa using hl) (fun i hi => h1 (i + 1) (by simpa using hi)) (fun i hi => h2 (i + 1) (by simpa using hi)) h
    obtain ⟨a1, a2⟩ := a
    obtain ⟨b1, b2⟩ := b
    simp only at q1 q2 ha hb
    rw [e, show a1 = b1 by omega, show a2 = b2 by omega]
theorem bP_inj {a b : Bool} (h : bP a = bP b) : a = b := by cases a <;> cases b <;> simp [bP] at h <;> rfl
theorem bP_lt (a : Bool) : bP a < 256 ^ 1 := by cases a <;> decide
/-- A content tells the mail, if it may be. -/
theorem conP_inj {a b : Ml} (ha : okL a) (hb : okL b) (la : ltL a) (lb : ltL b) (hk : a.kd = b.kd) (h : flat (conP a) = flat (conP b)) : a = b := by
  obtain ⟨⟨k1, k2, ⟨n1, n2⟩, n3, n4, n5, n6, n7, n8⟩, hm, hd, he, hl, hu⟩ := ha
  obtain ⟨⟨_, _, ⟨p1, p2⟩, p3, p4, p5, p6, p7, p8⟩, pm, pd, pe, pl, pu⟩ := hb
  obtain ⟨m0, m1, m2, m3⟩ := mayM_parts hm
  obtain ⟨o0, o1, o2, o3⟩ := mayM_parts pm
  obtain ⟨b0, b1, b2, b3⟩ := la.1
  obtain ⟨c0, c1, c2, c3⟩ := lb.1
  obtain ⟨d1, d2⟩ := chkD_ok hd
  obtain ⟨q1, q2⟩ := chkD_ok pd
  obtain ⟨e1, e2⟩ := mayE_ok he
  obtain ⟨g1, g2⟩ := mayE_ok pe
  have f1 := badN_no n1
  have f2 := badN_no n2
  have r1 := badN_no p1
  have r2 := badN_no p2
  have hc : a.kd = 1 ∨ a.kd = 2 ∨ a.kd = 3 ∨ a.kd = 4 ∨ a.kd = 5 ∨ a.kd = 6 := by omega
  rw [hu, pu]
  obtain ⟨kd, fr, tt, ep, nu, ab, ⟨gs, gw, gc, ga⟩, wa, ds, eh, x1, x2, ls⟩ := a
  obtain ⟨kd', fr', tt', ep', nu', ab', ⟨gs', gw', gc', ga'⟩, wa', ds', eh', x1', x2', ls'⟩ := b
  simp only at hk hc k1 k2 n1 n2 n3 n4 n5 n6 n7 n8 m0 m1 m2 m3 p1 p2 p3 p4 p5 p6 p7 p8 o0 o1 o2 o3 b0 b1 b2 b3 c0 c1 c2 c3 d1 d2 q1 q2 e1 e2 g1 g2 f1 f2 r1 r2 hl pl la lb
  subst hk
  clear hu pu hm pm hd pd he pe n1 n2 p1 p2
  have hh : ∀ {X Y : List (Nat × Nat)}, flat (hdP ⟨kd, fr, tt, ep, nu, ab, ⟨gs, gw, gc, ga⟩, wa, ds, eh, x1, x2, ls⟩ ++ X) = flat (hdP ⟨kd, fr', tt', ep', nu', ab', ⟨gs', gw', gc', ga'⟩, wa', ds', eh', x1', x2', ls'⟩ ++ Y) → fr = fr' ∧ tt = tt' ∧ ep = ep' ∧ nu = nu' ∧ flat X = flat Y := fun {X Y} h => by
    simp only [hdP, List.cons_append, List.nil_append] at h
    obtain ⟨z1, h⟩ := flat_cons (show fr.toNat < 256 ^ 1 by omega) (show fr'.toNat < 256 ^ 1 by omega) h
    obtain ⟨z2, h⟩ := flat_cons (show tt.toNat < 256 ^ 1 by omega) (show tt'.toNat < 256 ^ 1 by omega) h
    obtain ⟨z3, h⟩ := flat_cons (show ep.toNat < 256 ^ 2 by omega) (show ep'.toNat < 256 ^ 2 by omega) h
    obtain ⟨z4, h⟩ := flat_cons (show nu.toNat < 256 ^ 3 by omega) (show nu'.toNat < 256 ^ 3 by omega) h
    exact ⟨by omega, by omega, by omega, by omega, h⟩
  rcases hc with rfl | rfl | rfl | rfl | rfl | rfl
  · obtain ⟨rfl, rfl, rfl, rfl, h⟩ := hh h
    obtain ⟨rfl, h⟩ := ptD_inj m0 o0 b0 c0 h
    obtain ⟨rfl, h⟩ := ptD_inj (r := []) (t := []) m1 o1 b1 c1 (by simpa using h)
    rfl
  · obtain ⟨rfl, rfl, rfl, rfl, h⟩ := hh h
    obtain ⟨rfl, h⟩ := ptD_inj m2 o2 b2 c2 h
    obtain ⟨rfl, h⟩ := ptD_inj (r := []) (t := []) m3 o3 b3 c3 (by simpa using h)
    rfl
  · obtain ⟨rfl, rfl, rfl, rfl, h⟩ := hh h
    obtain ⟨z1, h⟩ := flat_cons (show ab.toNat < 256 ^ 3 by omega) (show ab'.toNat < 256 ^ 3 by omega) h
    obtain rfl : ab = ab' := by omega
    obtain ⟨rfl, h⟩ := ptD_inj m2 o2 b2 c2 h
    obtain ⟨rfl, h⟩ := ptD_inj (r := []) (t := []) m3 o3 b3 c3 (by simpa using h)
    rfl
  · obtain ⟨rfl, rfl, rfl, rfl, h⟩ := hh h
    obtain ⟨z1, h⟩ := flat_cons (show ab.toNat < 256 ^ 3 by omega) (show ab'.toNat < 256 ^ 3 by omega) h
    obtain rfl : ab = ab' := by omega
    rfl
  · obtain ⟨rfl, rfl, rfl, rfl, h⟩ := hh h
    obtain ⟨z1, h⟩ := flat_cons (bP_lt wa) (bP_lt wa') h
    obtain rfl := bP_inj z1
    obtain ⟨z2, h⟩ := flat_cons (show ds.length < 256 ^ 1 by omega) (show ds'.length < 256 ^ 1 by omega) h
    obtain rfl := dsP_inj ds ds' z2 d2 q2 h
    rfl
  · obtain ⟨rfl, rfl, rfl, rfl, h⟩ := hh h
    obtain ⟨z1, h⟩ := flat_cons (bP_lt eh) (bP_lt eh') h
    obtain rfl := bP_inj z1
    obtain ⟨z2, h⟩ := flat_cons (show (x1 + 2147483648).toNat < 256 ^ 4 by omega) (show (x1' + 2147483648).toNat < 256 ^ 4 by omega) h
    obtain ⟨z3, h⟩ := flat_cons (show (x2 + 2147483648).toNat < 256 ^ 4 by omega) (show (x2' + 2147483648).toNat < 256 ^ 4 by omega) h
    obtain ⟨z4, h⟩ := flat_cons (show ls.length < 256 ^ 1 by omega) (show ls'.length < 256 ^ 1 by omega) h
    obtain rfl : x1 = x1' := by omega
    obtain rfl : x2 = x2' := by omega
    obtain ⟨rfl, _⟩ := flat_map (fun x : Nat => x) (fun x => x < 4294967296) (fun x hx => by show x < 256 ^ 4; omega) (fun x y _ _ hxy => hxy) ls ls' [] [] z4 la.2 lb.2 (by simpa [lsP] using h)
    rfl
theorem framed_inj {k k' : Nat} {l l' : List Nat} (h : framed k l = framed k' l') : k = k' ∧ l = l' := by
  have hl : l.length = l'.length := by have := congrArg List.length h; rw [framed_len, framed_len] at this; omega
  unfold framed at h
  obtain ⟨h1, _⟩ := List.append_inj h (by rw [headed_len, headed_len, hl])
  unfold headed at h1
  simp only [List.cons_append, List.nil_append, List.cons.injEq, true_and] at h1
  exact ⟨h1.1, h1.2.2.2⟩
/-- The bytes of a content. -/
def byP (m : Ml) : List Nat := (flat (conP m)).map Int.toNat
theorem flat_byte : ∀ (ps : List (Nat × Nat)), ∀ b ∈ flat ps, 0 ≤ b ∧ b < 256
  | [], b, h => by simp [flat] at h
  | p :: r, b, h => by
    rw [flat, List.mem_append] at h
    exact h.elim (digs_byte _ _ b) (flat_byte r b)
theorem u8s_bytes {l : List Int} (h : ∀ b ∈ l, 0 ≤ b) : u8s l = bytes (l.map Int.toNat) := by
  unfold u8s bytes
  rw [List.map_map]
  apply List.map_congr_left
  intro b hb
  simp [Int.toNat_of_nonneg (h b hb)]
theorem byP_inj {a b : Ml} (h : byP a = byP b) : flat (conP a) = flat (conP b) := by
  have e : ∀ ps, ((flat ps).map Int.toNat).map Int.ofNat = flat ps := fun ps => by
    rw [List.map_map]
    conv => rhs; rw [← List.map_id (flat ps)]
    apply List.map_congr_left
    intro b hb
    have := (flat_byte ps b hb).1
    simp [Int.toNat_of_nonneg this]
  have := congrArg (List.map Int.ofNat) h
  unfold byP at this
  rwa [e, e] at this
theorem byP_len (m : Ml) : (byP m).length = total (conP m) := by unfold byP; rw [List.length_map, flat_len]
theorem byP_lt (m : Ml) : ∀ b ∈ byP m, b < 256 := fun b hb => by
  obtain ⟨z, hz, rfl⟩ := List.mem_map.1 hb
  have := flat_byte _ z hz
  omega
theorem conP_total {m : Ml} (h : okL m) : total (conP m) ≤ 400 := by
  obtain ⟨_, hm, hd, _, hl, _⟩ := h
  obtain ⟨m0, m1, m2, m3⟩ := mayM_parts hm
  have l0 := mayd_len m0
  have l1 := mayd_len m1
  have l2 := mayd_len m2
  have l3 := mayd_len m3
  have d1 := (chkD_ok hd).1
  have hh : total (hdP m) = 7 := rfl
  unfold conP
  split
  · simp only [total_app, ptD_total, hh]; omega
  split
  · simp only [total_app, ptD_total, hh]; omega
  split
  · simp only [total_app, total, ptD_total, hh]; omega
  split
  · simp only [total_app, total, hh]; omega
  split
  · simp only [total_app, total, dsP_total, hh]; omega
  · simp only [total_app, total, lsP_total, hh]; omega
end Go.Proofs.Ytjmhefkmpfkpbaa
namespace Go.Proofs.Ytjmhefkmpfkpbaa
open Go.ChangeShapes Go.WideShapes Go.ChangeAt Go.RowKit
set_option linter.unusedSimpArgs false
set_option linter.unusedVariables false
/-- What mail.Write answers. -/
def WrP (m : Ml) (w : World) (en : Ending) (w' : World) : Prop := Below w.heap.size w w' ∧ ((¬ okL m ∧ en = .returned (.tuple #[.slice none 0 0, .int .i64 100])) ∨ (okL m ∧ ∃ v, en = .returned (.tuple #[v, .int .i64 0]) ∧ Owns w w' v (framed m.kd.toNat (byP m))))
set_option maxRecDepth 100000 in
set_option maxHeartbeats 16000000 in
theorem write_any (o : MO) (hsm : smL o.x) (hlt : ltL o.x) (hk0 : 0 ≤ o.x.kd ∧ o.x.kd < 256) (w : World) (hr : rdL w w.heap.size o) : Calls Try.prog 10 #[aggL o] w (WrP o.x w) := by
  obtain ⟨V, hV⟩ : ∃ V, V = w.alloc (.cells #[.int .u8 o.x.kd, .int .i64 o.x.fr, .int .i64 o.x.tt, .int .i64 o.x.ep, .int .i64 o.x.nu, .int .i64 o.x.ab, .bool o.x.give.s.neg, .slice o.X0 o.x.give.s.ls.length o.c0, .int .i64 o.x.give.s.ex, .bool o.x.give.w.neg, .slice o.X1 o.x.give.w.ls.length o.c1, .int .i64 o.x.give.w.ex, .bool o.x.give.c.neg, .slice o.X2 o.x.give.c.ls.length o.c2, .int .i64 o.x.give.c.ex, .bool o.x.give.a.neg, .slice o.X3 o.x.give.a.ls.length o.c3, .int .i64 o.x.give.a.ex, .bool o.x.wa, .slice o.D o.x.ds.length o.dc, .bool o.x.eh, .int .i64 o.x.e1, .int .i64 o.x.e2, .slice o.L o.x.ls.length o.lc] 31) := ⟨_, rfl⟩
  have hB : Below w.heap.size w V := by rw [hV]; exact (Below.refl _ _).alloc (Nat.le_refl _) _
  have ka : Blk V w.heap.size 31 #[.int .u8 o.x.kd, .int .i64 o.x.fr, .int .i64 o.x.tt, .int .i64 o.x.ep, .int .i64 o.x.nu, .int .i64 o.x.ab, .bool o.x.give.s.neg, .slice o.X0 o.x.give.s.ls.length o.c0, .int .i64 o.x.give.s.ex, .bool o.x.give.w.neg, .slice o.X1 o.x.give.w.ls.length o.c1, .int .i64 o.x.give.w.ex, .bool o.x.give.c.neg, .slice o.X2 o.x.give.c.ls.length o.c2, .int .i64 o.x.give.c.ex, .bool o.x.give.a.neg, .slice o.X3 o.x.give.a.ls.length o.c3, .int .i64 o.x.give.a.ex, .bool o.x.wa, .slice o.D o.x.ds.length o.dc, .bool o.x.eh, .int .i64 o.x.e1, .int .i64 o.x.e2, .slice o.L o.x.ls.length o.lc] := by rw [hV]; exact Blk.new w _ _
  have hc := check_any o hsm V (hr.below hB hB.size)
  have hkd : ((o.x.kd.toNat : Nat) : Int) = o.x.kd := by omega
  have hcon : okL o.x → ∀ w', Below w.heap.size w w' → Calls Try.prog 26 #[aggL o] w' fun en w'' => ∃ X c, en = .returned (.slice X (total (conP o.x)) c) ∧ w''.ownsRow w'.heap.size 5 1 (.slice X (total (conP o.x)) c) (total (conP o.x)) (u8s (flat (conP o.x))) ∧ Below w'.heap.size w' w'' := fun hok w' hw => content_any o hok hlt w' (hr.below hw hw.size)
  unfold aggL at hc hcon ⊢
  have gkd := Lib.hid hkd
  clear hkd hsm hlt hr
  go_enter Try.func10, Try.ntmps10
  go_upto_region 1 with (fail)
  rw [← hV]
  clear hV
  go_wp2_with (refine wpList_load_row rfl 31 _ rfl w.heap.size rfl 31 #[.int .u8 o.x.kd, .int .i64 o.x.fr, .int .i64 o.x.tt, .int .i64 o.x.ep, .int .i64 o.x.nu, .int .i64 o.x.ab, .bool o.x.give.s.neg, .slice o.X0 o.x.give.s.ls.length o.c0, .int .i64 o.x.give.s.ex, .bool o.x.give.w.neg, .slice o.X1 o.x.give.w.ls.length o.c1, .int .i64 o.x.give.w.ex, .bool o.x.give.c.neg, .slice o.X2 o.x.give.c.ls.length o.c2, .int .i64 o.x.give.c.ex, .bool o.x.give.a.neg, .slice o.X3 o.x.give.a.ls.length o.c3, .int .i64 o.x.give.a.ex, .bool o.x.wa, .slice o.D o.x.ds.length o.dc, .bool o.x.eh, .int .i64 o.x.e1, .int .i64 o.x.e2, .slice o.L o.x.ls.length o.lc] (0, 0) _ ka.row Try.underlying31 rfl (by kernel_rfl) ?_)
  refine hc.mono ?_
  rintro en w1 ⟨E, rfl, ⟨hok, rfl⟩ | ⟨hno, rfl⟩, hb1⟩
  rotate_left
  · have gno := Lib.hid hno
    have hB1 := hB.trans (hb1.mono hB.size)
    clear hcon hc ka hno hk0
    go_wp2
    go_ret2
    exact ⟨hB1, .inl ⟨gno.out, rfl⟩⟩
  replace hcon := hcon hok
  have hB1 := hB.trans (hb1.mono hB.size)
  have k1 := ka.below hb1 ka.lt
  have k2 : Blk w1.drew w.heap.size 31 #[.int .u8 o.x.kd, .int .i64 o.x.fr, .int .i64 o.x.tt, .int .i64 o.x.ep, .int .i64 o.x.nu, .int .i64 o.x.ab, .bool o.x.give.s.neg, .slice o.X0 o.x.give.s.ls.length o.c0, .int .i64 o.x.give.s.ex, .bool o.x.give.w.neg, .slice o.X1 o.x.give.w.ls.length o.c1, .int .i64 o.x.give.w.ex, .bool o.x.give.c.neg, .slice o.X2 o.x.give.c.ls.length o.c2, .int .i64 o.x.give.c.ex, .bool o.x.give.a.neg, .slice o.X3 o.x.give.a.ls.length o.c3, .int .i64 o.x.give.a.ex, .bool o.x.wa, .slice o.D o.x.ds.length o.dc, .bool o.x.eh, .int .i64 o.x.e1, .int .i64 o.x.e2, .slice o.L o.x.ls.length o.lc] := k1.drew
  have hB2 : Below w.heap.size w w1.drew := hB1.drew
  clear hc ka hb1
  go_upto_region 4 with (fail)
  have hkd := gkd.out
  refine wp_region_noPanic ?_
  refine wp_region_held_drew (S := fun w' => w'.cell? ⟨w.heap.size, 0, none⟩ = some (.int .u8 o.x.kd) ∧ w'.rangeAt w.heap.size 0 [.int .u8 o.x.kd, .int .i64 o.x.fr, .int .i64 o.x.tt, .int .i64 o.x.ep, .int .i64 o.x.nu, .int .i64 o.x.ab, .bool o.x.give.s.neg, .slice o.X0 o.x.give.s.ls.length o.c0, .int .i64 o.x.give.s.ex, .bool o.x.give.w.neg, .slice o.X1 o.x.give.w.ls.length o.c1, .int .i64 o.x.give.w.ex, .bool o.x.give.c.neg, .slice o.X2 o.x.give.c.ls.length o.c2, .int .i64 o.x.give.c.ex, .bool o.x.give.a.neg, .slice o.X3 o.x.give.a.ls.length o.c3, .int .i64 o.x.give.a.ex, .bool o.x.wa, .slice o.D o.x.ds.length o.dc, .bool o.x.eh, .int .i64 o.x.e1, .int .i64 o.x.e2, .slice o.L o.x.ls.length o.lc]) (by kernel_rfl) (⟨by rw [k2.cell]; rfl, k2.range 0 _ rfl⟩) (fun hHeld => ?_)
  refine wpAnyH_take (i := 0) (oi := ?o0) (v := ?v0) ?ho0 (by kernel_rfl) (by kernel_rfl) (by kernel_rfl) (fun _ _ _ h => h) (Or.inl ⟨?wn0, ?yn0⟩) (by assumption) ?rest0
  case ho0 => (simp only [List.getElem?_toArray, List.getElem?_cons_zero, List.getElem?_cons_succ]; rfl)
  case wn0 => rfl
  case yn0 => (intro w hSw; (try dsimp only at hSw); go_simp; (try with_reducible rfl))
  (try simp only [Act.put, List.setIfInBounds_toArray, List.set_cons_zero, List.set_cons_succ])
  refine wpAnyH_take (i := 1) (oi := ?o1) (v := ?v1) ?ho1 (by kernel_rfl) (by kernel_rfl) (by kernel_rfl) (fun _ _ _ h => h) (Or.inl ⟨?wn1, ?yn1⟩) (by assumption) ?rest1
  case ho1 => (simp only [List.getElem?_toArray, List.getElem?_cons_zero, List.getElem?_cons_succ]; rfl)
  case wn1 => rfl
  case yn1 => (intro w hSw; (try dsimp only at hSw); go_simp; (try with_reducible rfl))
  (try simp only [Act.put, List.setIfInBounds_toArray, List.set_cons_zero, List.set_cons_succ])
  refine wpAnyH_take (i := 2) (oi := ?o2) (v := .agg ([.int .u8 o.x.kd, .int .i64 o.x.fr, .int .i64 o.x.tt, .int .i64 o.x.ep, .int .i64 o.x.nu, .int .i64 o.x.ab, .bool o.x.give.s.neg, .slice o.X0 o.x.give.s.ls.length o.c0, .int .i64 o.x.give.s.ex, .bool o.x.give.w.neg, .slice o.X1 o.x.give.w.ls.length o.c1, .int .i64 o.x.give.w.ex, .bool o.x.give.c.neg, .slice o.X2 o.x.give.c.ls.length o.c2, .int .i64 o.x.give.c.ex, .bool o.x.give.a.neg, .slice o.X3 o.x.give.a.ls.length o.c3, .int .i64 o.x.give.a.ex, .bool o.x.wa, .slice o.D o.x.ds.length o.dc, .bool o.x.eh, .int .i64 o.x.e1, .int .i64 o.x.e2, .slice o.L o.x.ls.length o.lc] : List Value).toArray) ?ho2 (by kernel_rfl) (by kernel_rfl) (by kernel_rfl) (fun _ _ _ h => h) (yieldsIf_load_mid ?wn2 31 (.tmp 1) ?on2 w.heap.size 0 ?xn2 [.int .u8 o.x.kd, .int .i64 o.x.fr, .int .i64 o.x.tt, .int .i64 o.x.ep, .int .i64 o.x.nu, .int .i64 o.x.ab, .bool o.x.give.s.neg, .slice o.X0 o.x.give.s.ls.length o.c0, .int .i64 o.x.give.s.ex, .bool o.x.give.w.neg, .slice o.X1 o.x.give.w.ls.length o.c1, .int .i64 o.x.give.w.ex, .bool o.x.give.c.neg, .slice o.X2 o.x.give.c.ls.length o.c2, .int .i64 o.x.give.c.ex, .bool o.x.give.a.neg, .slice o.X3 o.x.give.a.ls.length o.c3, .int .i64 o.x.give.a.ex, .bool o.x.wa, .slice o.D o.x.ds.length o.dc, .bool o.x.eh, .int .i64 o.x.e1, .int .i64 o.x.e2, .slice o.L o.x.ls.length o.lc] _ (fun w h => h.2) Try.underlying31 rfl (by kernel_rfl)) (by assumption) ?rest2
  case ho2 => (simp only [List.getElem?_toArray, List.getElem?_cons_zero, List.getElem?_cons_succ]; rfl)
  case on2 => rfl
  case wn2 => rfl
  case xn2 => rfl
  (try simp only [Act.put, List.setIfInBounds_toArray, List.set_cons_zero, List.set_cons_succ])
  refine wpAnyH_ready (rs := [3]) (by kernel_rfl) (by simp) ?_
  refine AllReadyH.cons (o := ?o3) ?ho3 (fun K hK => ?rest3) AllReadyH.nil
  case ho3 => (simp only [List.getElem?_toArray, List.getElem?_cons_zero, List.getElem?_cons_succ]; rfl)
  go_simp
  with_reducible refine (hcon _ (by assumption)).mono ?_
  rintro en w3 ⟨X, cx, rfl, ho, hb3⟩
  have k3 := k2.below hb3 k2.lt
  have hp := fput_ok o.x.kd.toNat (by omega) X cx (byP o.x) (byP_lt _) (by rw [byP_len]; have := conP_total hok; omega) w3 (by rw [byP_len, show bytes (byP o.x) = u8s (flat (conP o.x)) from (u8s_bytes (fun b hb => (flat_byte _ b hb).1)).symm]; exact Reads.of_own ho)
  rw [byP_len, hkd] at hp
  have ghb3 := Lib.hid hb3
  clear ho hb3
  refine hK.out _ _ (⟨by rw [k3.cell]; rfl, k3.range 0 _ rfl⟩) (fun hHeld => ?_)
  clear hK K
  (try simp only [Act.put, List.setIfInBounds_toArray, List.set_cons_zero, List.set_cons_succ])
  refine wpAnyH_ready (rs := [4]) (by kernel_rfl) (by simp) ?_
  refine AllReadyH.cons (o := ?o4) ?ho4 (fun K hK => ?rest4) AllReadyH.nil
  case ho4 => (simp only [List.getElem?_toArray, List.getElem?_cons_zero, List.getElem?_cons_succ]; rfl)
  go_simp
  with_reducible refine hp.mono ?_
  rintro en w4 ⟨v4, rfl, ho4, hb4⟩
  have k4 := k3.below hb4 k3.lt
  have gho4 := Lib.hid ho4
  have ghb4 := Lib.hid hb4
  clear ho4 hb4 hp
  refine hK.out _ _ (⟨by rw [k4.cell]; rfl, k4.range 0 _ rfl⟩) (fun hHeld => ?_)
  clear hK K
  (try simp only [Act.put, List.setIfInBounds_toArray, List.set_cons_zero, List.set_cons_succ])
  refine wpAnyH_take (i := 5) (oi := ?o5) (v := ?v5) ?ho5 (by kernel_rfl) (by kernel_rfl) (by kernel_rfl) (fun _ _ _ h => h) (Or.inl ⟨?wn5, ?yn5⟩) (by assumption) ?rest5
  case ho5 => (simp only [List.getElem?_toArray, List.getElem?_cons_zero, List.getElem?_cons_succ]; rfl)
  case wn5 => rfl
  case yn5 => (intro w hSw; (try dsimp only at hSw); go_simp; (try with_reducible rfl))
  (try simp only [Act.put, List.setIfInBounds_toArray, List.set_cons_zero, List.set_cons_succ])
  refine wpAnyH_take (i := 6) (oi := ?o6) (v := ?v6) ?ho6 (by kernel_rfl) (by kernel_rfl) (by kernel_rfl) (fun _ _ _ h => h) (Or.inl ⟨?wn6, ?yn6⟩) (by assumption) ?rest6
  case ho6 => (simp only [List.getElem?_toArray, List.getElem?_cons_zero, List.getElem?_cons_succ]; rfl)
  case wn6 => rfl
  case yn6 => (intro w hSw; (try dsimp only at hSw); go_simp; (try with_reducible rfl))
  (try simp only [Act.put, List.setIfInBounds_toArray, List.set_cons_zero, List.set_cons_succ])
  refine wpAnyH_take (i := 7) (oi := ?o7) (v := ?v7) ?ho7 (by kernel_rfl) (by kernel_rfl) (by kernel_rfl) (fun _ _ _ h => h) (Or.inl ⟨?wn7, ?yn7⟩) (by assumption) ?rest7
  case ho7 => (simp only [List.getElem?_toArray, List.getElem?_cons_zero, List.getElem?_cons_succ]; rfl)
  case wn7 => rfl
  case yn7 => (intro w hSw; (try dsimp only at hSw); go_simp; (try with_reducible rfl))
  (try simp only [Act.put, List.setIfInBounds_toArray, List.set_cons_zero, List.set_cons_succ])
  refine wpAnyH_take (i := 8) (oi := ?o8) (v := ?v8) ?ho8 (by kernel_rfl) (by kernel_rfl) (by kernel_rfl) (fun _ _ _ h => h) (Or.inl ⟨?wn8, ?yn8⟩) (by assumption) ?rest8
  case ho8 => (simp only [List.getElem?_toArray, List.getElem?_cons_zero, List.getElem?_cons_succ]; rfl)
  case wn8 => rfl
  case yn8 => (intro w hSw; (try dsimp only at hSw); go_simp; (try with_reducible rfl))
  (try simp only [Act.put, List.setIfInBounds_toArray, List.set_cons_zero, List.set_cons_succ])
  refine wpAnyH_done (by kernel_rfl) ?_ _
  refine NoPanic.normal ?_
  have gB4 := Lib.hid ((hB2.trans (ghb3.out.mono hB2.size)).trans (ghb4.out.mono (Nat.le_trans hB2.size ghb3.out.size)))
  have gow : Hid (Owns w w4 v4 (framed o.x.kd.toNat (byP o.x))) := Lib.hid (own_mono gho4.out (Nat.le_trans hB2.size ghb3.out.size))
  have gok := Lib.hid hok
  clear hkd k1 k2 k3 k4 hcon hok hB hB1 hB2 ghb3 ghb4 gho4 gkd hk0
  go_wp2
  go_ret2
  exact ⟨gB4.out, .inr ⟨gok.out, v4, rfl, gow.out⟩⟩
end Go.Proofs.Ytjmhefkmpfkpbaa
