/- Mail: a mail's text tells the mail (plain) -/
import Derived.Test.YtjmhefkmpfkpbaaPP
import Derived.Test.YtjmhefkmpfkpbaaR
import Derived.Test.YtjmhefkmpfkpbaaPutW
namespace Go.Proofs.Ytjmhefkmpfkpbaa
open Go.ChangeShapes Go.WideShapes Go.ChangeAt Go.RowKit
set_option linter.unusedSimpArgs false
set_option linter.unusedVariables false
theorem digs_inj {x y s : Nat} (hx : x < 256 ^ s) (hy : y < 256 ^ s) (h : digs x s = digs y s) : x = y := by
  have h1 := numI_digs s x
  have h2 := numI_digs s y
  rw [h, h2, Nat.mod_eq_of_lt hx, Nat.mod_eq_of_lt hy] at h1
  omega
theorem flat_cons {x y s : Nat} {r t : List (Nat × Nat)} (hp : x < 256 ^ s) (hq : y < 256 ^ s) (h : flat ((x, s) :: r) = flat ((y, s) :: t)) : x = y ∧ flat r = flat t := by
  rw [flat, flat] at h
  obtain ⟨h1, h2⟩ := List.append_inj h (by rw [digs_len, digs_len])
  exact ⟨digs_inj hp hq h1, h2⟩
/-- Rows of parts of one shape. -/
theorem flat_map {α : Type} (f : α → Nat) (P : α → Prop) (hP : ∀ x, P x → f x < 256 ^ 4) (hi : ∀ x y, P x → P y → f x = f y → x = y) : ∀ (l k : List α) (r t : List (Nat × Nat)), l.length = k.length → (∀ x ∈ l, P x) → (∀ x ∈ k, P x) → flat (l.map (fun x => (f x, 4)) ++ r) = flat (k.map (fun x => (f x, 4)) ++ t) → l = k ∧ flat r = flat t
  | [], [], r, t, _, _, _, h => ⟨rfl, h⟩
  | [], b :: k, r, t, hl, _, _, h => by simp at hl
  | a :: l, [], r, t, hl, _, _, h => by simp at hl
  | a :: l, b :: k, r, t, hl, h1, h2, h => by
    obtain ⟨e1, e2⟩ := flat_cons (hP a (h1 a (by simp))) (hP b (h2 b (by simp))) h
    obtain ⟨e3, e4⟩ := flat_map f P hP hi l k r t (by simpa using hl) (fun x hx => h1 x (by simp [hx])) (fun x hx => h2 x (by simp [hx])) e2
    exact ⟨by rw [e3, hi a b (h1 a (by simp)) (h2 b (by simp)) e1], e4⟩
theorem mayd_ex {d : Dy} (h : mayd d = true) : 0 ≤ d.ex ∧ d.ex ≤ 1024 := by
  simp only [mayd, mayD, Bool.and_eq_true, decide_eq_true_eq] at h
  exact ⟨h.2.1, h.2.2.1⟩
theorem ptD_inj {d k : Dy} {r t : List (Nat × Nat)} (hd : mayd d = true) (hk : mayd k = true) (bd : ∀ x ∈ d.ls, x < 4294967296) (bk : ∀ x ∈ k.ls, x < 4294967296) (h : flat (ptD d ++ r) = flat (ptD k ++ t)) : d = k ∧ flat r = flat t := by
  have l1 := mayd_len hd
  have l2 := mayd_len hk
  have e1 := mayd_ex hd
  have e2 := mayd_ex hk
  obtain ⟨g, l, e⟩ := d
  obtain ⟨g', l', e'⟩ := k
  simp only at l1 l2 e1 e2 bd bk
  simp only [ptD, ptsD, List.cons_append, List.length_map, List.map_map] at h
  obtain ⟨q1, h⟩ := flat_cons (show (if g = true then 1 else 0) < 256 ^ 1 by cases g <;> decide) (show (if g' = true then 1 else 0) < 256 ^ 1 by cases g' <;> decide) h
  obtain ⟨q2, h⟩ := flat_cons (show e.toNat < 256 ^ 2 by omega) (show e'.toNat < 256 ^ 2 by omega) h
  obtain ⟨q3, h⟩ := flat_cons (show l.length < 256 ^ 1 by omega) (show l'.length < 256 ^ 1 by omega) h
  obtain ⟨q4, h9⟩ := flat_map (fun x : Nat => ((Int.ofNat x).toNat)) (fun x => x < 4294967296) (fun x hx => by show (Int.ofNat x).toNat < 256 ^ 4; simp; omega) (fun x y _ _ hxy => by simpa using hxy) l l' r t q3 bd bk h
  subst q4
  obtain rfl : g = g' := by cases g <;> cases g' <;> simp at q1 <;> rfl
  obtain rfl : e = e' := by omega
  exact ⟨rfl, h9⟩
theorem dsP_inj : ∀ (l k : List Tm), l.length = k.length → (∀ i, i < l.length → mayT (tz l i) = true) → (∀ i, i < k.length → mayT (tz k i) = true) → flat (dsP l) = flat (dsP k) → l = k
  | [], [], _, _, _, h => rfl
  | [], b :: k, hl, _, _, h => by simp at hl
  | a :: l, [], hl, _, _, h => by simp at hl
  | a :: l, b :: k, hl, h1, h2, h => by
    have ha := h1 0 (by simp)
    have hb := h2 0 (by simp)
    simp only [tz, List.getD_cons_zero, mayT, Bool.and_eq_true, decide_eq_true_eq] at ha hb
    rw [show dsP (a :: l) = (a.1.toNat, 1) :: (a.2.toNat, 4) :: dsP l from rfl, show dsP (b :: k) = (b.1.toNat, 1) :: (b.2.toNat, 4) :: dsP k from rfl] at h
    obtain ⟨q1, h⟩ := flat_cons (show a.1.toNat < 256 ^ 1 by omega) (show b.1.toNat < 256 ^ 1 by omega) h
    obtain ⟨q2, h⟩ := flat_cons (show a.2.toNat < 256 ^ 4 by omega) (show b.2.toNat < 256 ^ 4 by omega) h
    have e := dsP_inj l k (by simpa using hl) (fun i hi => h1 (i + 1) (by simpa using hi)) (fun i hi => h2 (i + 1) (by simpa using hi)) h
    obtain ⟨a1, a2⟩ := a
    obtain ⟨b1, b2⟩ := b
    simp only at q1 q2 ha hb
    rw [e, show a1 = b1 by omega, show a2 = b2 by omega]
theorem bP_inj {a b : Bool} (h : bP a = bP b) : a = b := by cases a <;> cases b <;> simp [bP] at h <;> rfl
theorem bP_lt (a : Bool) : bP a < 256 ^ 1 := by cases a <;> decide
/-- A content tells the mail, if it may be. -/
theorem conP_inj {a b : Ml} (ha : okL a) (hb : okL b) (la : ltL a) (lb : ltL b) (hk : a.kd = b.kd) (h : flat (conP a) = flat (conP b)) : a = b := by
  obtain ⟨⟨k1, k2, ⟨n1, n2⟩, n3, n4, n5, n6, n7, n8⟩, hm, hd, he, hl, hu⟩ := ha
  obtain ⟨⟨_, _, ⟨p1, p2⟩, p3, p4, p5, p6, p7, p8⟩, pm, pd, pe, pl, pu⟩ := hb
  obtain ⟨m0, m1, m2, m3⟩ := mayM_parts hm
  obtain ⟨o0, o1, o2, o3⟩ := mayM_parts pm
  obtain ⟨b0, b1, b2, b3⟩ := la.1
  obtain ⟨c0, c1, c2, c3⟩ := lb.1
  obtain ⟨d1, d2⟩ := chkD_ok hd
  obtain ⟨q1, q2⟩ := chkD_ok pd
  obtain ⟨e1, e2⟩ := mayE_ok he
  obtain ⟨g1, g2⟩ := mayE_ok pe
  have f1 := badN_no n1
  have f2 := badN_no n2
  have r1 := badN_no p1
  have r2 := badN_no p2
  have hc : a.kd = 1 ∨ a.kd = 2 ∨ a.kd = 3 ∨ a.kd = 4 ∨ a.kd = 5 ∨ a.kd = 6 := by omega
  rw [hu, pu]
  obtain ⟨kd, fr, tt, ep, nu, ab, ⟨gs, gw, gc, ga⟩, wa, ds, eh, x1, x2, ls⟩ := a
  obtain ⟨kd', fr', tt', ep', nu', ab', ⟨gs', gw', gc', ga'⟩, wa', ds', eh', x1', x2', ls'⟩ := b
  simp only at hk hc k1 k2 n1 n2 n3 n4 n5 n6 n7 n8 m0 m1 m2 m3 p1 p2 p3 p4 p5 p6 p7 p8 o0 o1 o2 o3 b0 b1 b2 b3 c0 c1 c2 c3 d1 d2 q1 q2 e1 e2 g1 g2 f1 f2 r1 r2 hl pl la lb
  subst hk
  clear hu pu hm pm hd pd he pe n1 n2 p1 p2
  have hh : ∀ {X Y : List (Nat × Nat)}, flat (hdP ⟨kd, fr, tt, ep, nu, ab, ⟨gs, gw, gc, ga⟩, wa, ds, eh, x1, x2, ls⟩ ++ X) = flat (hdP ⟨kd, fr', tt', ep', nu', ab', ⟨gs', gw', gc', ga'⟩, wa', ds', eh', x1', x2', ls'⟩ ++ Y) → fr = fr' ∧ tt = tt' ∧ ep = ep' ∧ nu = nu' ∧ flat X = flat Y := fun {X Y} h => by
    simp only [hdP, List.cons_append, List.nil_append] at h
    obtain ⟨z1, h⟩ := flat_cons (show fr.toNat < 256 ^ 1 by omega) (show fr'.toNat < 256 ^ 1 by omega) h
    obtain ⟨z2, h⟩ := flat_cons (show tt.toNat < 256 ^ 1 by omega) (show tt'.toNat < 256 ^ 1 by omega) h
    obtain ⟨z3, h⟩ := flat_cons (show ep.toNat < 256 ^ 2 by omega) (show ep'.toNat < 256 ^ 2 by omega) h
    obtain ⟨z4, h⟩ := flat_cons (show nu.toNat < 256 ^ 3 by omega) (show nu'.toNat < 256 ^ 3 by omega) h
    exact ⟨by omega, by omega, by omega, by omega, h⟩
  rcases hc with rfl | rfl | rfl | rfl | rfl | rfl
  · obtain ⟨rfl, rfl, rfl, rfl, h⟩ := hh h
    obtain ⟨rfl, h⟩ := ptD_inj m0 o0 b0 c0 h
    obtain ⟨rfl, h⟩ := ptD_inj (r := []) (t := []) m1 o1 b1 c1 (by simpa using h)
    rfl
  · obtain ⟨rfl, rfl, rfl, rfl, h⟩ := hh h
    obtain ⟨rfl, h⟩ := ptD_inj m2 o2 b2 c2 h
    obtain ⟨rfl, h⟩ := ptD_inj (r := []) (t := []) m3 o3 b3 c3 (by simpa using h)
    rfl
  · obtain ⟨rfl, rfl, rfl, rfl, h⟩ := hh h
    obtain ⟨z1, h⟩ := flat_cons (show ab.toNat < 256 ^ 3 by omega) (show ab'.toNat < 256 ^ 3 by omega) h
    obtain rfl : ab = ab' := by omega
    obtain ⟨rfl, h⟩ := ptD_inj m2 o2 b2 c2 h
    obtain ⟨rfl, h⟩ := ptD_inj (r := []) (t := []) m3 o3 b3 c3 (by simpa using h)
    rfl
  · obtain ⟨rfl, rfl, rfl, rfl, h⟩ := hh h
    obtain ⟨z1, h⟩ := flat_cons (show ab.toNat < 256 ^ 3 by omega) (show ab'.toNat < 256 ^ 3 by omega) h
    obtain rfl : ab = ab' := by omega
    rfl
  · obtain ⟨rfl, rfl, rfl, rfl, h⟩ := hh h
    obtain ⟨z1, h⟩ := flat_cons (bP_lt wa) (bP_lt wa') h
    obtain rfl := bP_inj z1
    obtain ⟨z2, h⟩ := flat_cons (show ds.length < 256 ^ 1 by omega) (show ds'.length < 256 ^ 1 by omega) h
    obtain rfl := dsP_inj ds ds' z2 d2 q2 h
    rfl
  · obtain ⟨rfl, rfl, rfl, rfl, h⟩ := hh h
    obtain ⟨z1, h⟩ := flat_cons (bP_lt eh) (bP_lt eh') h
    obtain rfl := bP_inj z1
    obtain ⟨z2, h⟩ := flat_cons (show (x1 + 2147483648).toNat < 256 ^ 4 by omega) (show (x1' + 2147483648).toNat < 256 ^ 4 by omega) h
    obtain ⟨z3, h⟩ := flat_cons (show (x2 + 2147483648).toNat < 256 ^ 4 by omega) (show (x2' + 2147483648).toNat < 256 ^ 4 by omega) h
    obtain ⟨z4, h⟩ := flat_cons (show ls.length < 256 ^ 1 by omega) (show ls'.length < 256 ^ 1 by omega) h
    obtain rfl : x1 = x1' := by omega
    obtain rfl : x2 = x2' := by omega
    obtain ⟨rfl, _⟩ := flat_map (fun x : Nat => x) (fun x => x < 4294967296) (fun x hx => by show x < 256 ^ 4; omega) (fun x y _ _ hxy => hxy) ls ls' [] [] z4 la.2 lb.2 (by simpa [lsP] using h)
    rfl
theorem framed_inj {k k' : Nat} {l l' : List Nat} (h : framed k l = framed k' l') : k = k' ∧ l = l' := by
  have hl : l.length = l'.length := by have := congrArg List.length h; rw [framed_len, framed_len] at this; omega
  unfold framed at h
  obtain ⟨h1, _⟩ := List.append_inj h (by rw [headed_len, headed_len, hl])
  unfold headed at h1
  simp only [List.cons_append, List.nil_append, List.cons.injEq, true_and] at h1
  exact ⟨h1.1, h1.2.2.2⟩
/-- The bytes of a content. -/
def byP (m : Ml) : List Nat := (flat (conP m)).map Int.toNat
theorem flat_byte : ∀ (ps : List (Nat × Nat)), ∀ b ∈ flat ps, 0 ≤ b ∧ b < 256
  | [], b, h => by simp [flat] at h
  | p :: r, b, h => by
    rw [flat, List.mem_append] at h
    exact h.elim (digs_byte _ _ b) (flat_byte r b)
theorem u8s_bytes {l : List Int} (h : ∀ b ∈ l, 0 ≤ b) : u8s l = bytes (l.map Int.toNat) := by
  unfold u8s bytes
  rw [List.map_map]
  apply List.map_congr_left
  intro b hb
  simp [Int.toNat_of_nonneg (h b hb)]
theorem byP_inj {a b : Ml} (h : byP a = byP b) : flat (conP a) = flat (conP b) := by
  have e : ∀ ps, ((flat ps).map Int.toNat).map Int.ofNat = flat ps := fun ps => by
    rw [List.map_map]
    conv => rhs; rw [← List.map_id (flat ps)]
    apply List.map_congr_left
    intro b hb
    have := (flat_byte ps b hb).1
    simp [Int.toNat_of_nonneg this]
  have := congrArg (List.map Int.ofNat) h
  unfold byP at this
  rwa [e, e] at this
theorem byP_len (m : Ml) : (byP m).length = total (conP m) := by unfold byP; rw [List.length_map, flat_len]
theorem byP_lt (m : Ml) : ∀ b ∈ byP m, b < 256 := fun b hb => by
  obtain ⟨z, hz, rfl⟩ := List.mem_map.1 hb
  have := flat_byte _ z hz
  omega
theorem conP_total {m : Ml} (h : okL m) : total (conP m) ≤ 400 := by
  obtain ⟨_, hm, hd, _, hl, _⟩ := h
  obtain ⟨m0, m1, m2, m3⟩ := mayM_parts hm
  have l0 := mayd_len m0
  have l1 := mayd_len m1
  have l2 := mayd_len m2
  have l3 := mayd_len m3
  have d1 := (chkD_ok hd).1
  have hh : total (hdP m) = 7 := rfl
  unfold conP
  split
  · simp only [total_app, ptD_total, hh]; omega
  split
  · simp only [total_app, ptD_total, hh]; omega
  split
  · simp only [total_app, total, ptD_total, hh]; omega
  split
  · simp only [total_app, total, hh]; omega
  split
  · simp only [total_app, total, dsP_total, hh]; omega
  · simp only [total_app, total, lsP_total, hh]; omega
end Go.Proofs.Ytjmhefkmpfkpbaa
