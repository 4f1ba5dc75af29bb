/- Mail: what a content says (plain) -/
import Derived.Test.YtjmhefkmpfkpbaaPV
import Derived.Test.YtjmhefkmpfkpbaaPPR
namespace Go.Proofs.Ytjmhefkmpfkpbaa
open Go.ChangeShapes Go.WideShapes Go.ChangeAt Go.RowKit
set_option linter.unusedSimpArgs false
set_option linter.unusedVariables false
theorem part_at {L pre suf : List Int} {p x s : Nat} (h : L = pre ++ (digs x s ++ suf)) (hp : pre.length = p) : numI ((L.drop p).take s) = ((x % 256 ^ s : Nat) : Int) := by
  rw [h, List.drop_left' hp, List.take_left' (digs_len s x), numI_digs]
theorem flat_map_split (l : List Int) (k : Nat) (hk : k < l.length) : flat (l.map (fun x => (x.toNat, 4))) = flat ((l.take k).map (fun x => (x.toNat, 4))) ++ (digs (l.getD k 0).toNat 4 ++ flat ((l.drop (k + 1)).map (fun x => (x.toNat, 4)))) := by
  have e : l = l.take k ++ (l.getD k 0 :: l.drop (k + 1)) := by
    conv => lhs; rw [← List.take_append_drop k l]
    congr 1
    rw [List.drop_eq_getElem_cons hk, List.getD_eq_getElem?_getD, List.getElem?_eq_getElem hk]
    rfl
  conv => lhs; rw [e]
  rw [List.map_append, flat_app, List.map_cons, flat]
theorem flat_map_len (l : List Int) : (flat (l.map (fun x => (x.toNat, 4)))).length = 4 * l.length := by rw [flat_len, total_map]
section
variable {L pre suf l : List Int} {p m : Nat} {neg : Bool} {e : Nat}
theorem back_eq (hL : L = pre ++ (flat (ptsD neg l (e : Int)) ++ suf)) : L = pre ++ (digs (if neg then 1 else 0) 1 ++ (digs e 2 ++ (digs l.length 1 ++ (flat (l.map (fun x => (x.toNat, 4))) ++ suf)))) := by
  rw [hL]
  unfold ptsD
  simp only [flat, Int.toNat_natCast, List.append_assoc]
theorem back_N (hL : L = pre ++ (flat (ptsD neg l (e : Int)) ++ suf)) (hp : pre.length = p) : vN L p = if neg then 1 else 0 := by
  have := part_at (back_eq hL) hp
  unfold vN
  rw [this]
  cases neg <;> rfl
theorem back_X (hL : L = pre ++ (flat (ptsD neg l (e : Int)) ++ suf)) (hp : pre.length = p) (he : e < 65536) : vX L p = (e : Int) := by
  have h := back_eq hL
  rw [← List.append_assoc] at h
  have := part_at h (p := p + 1) (by rw [List.length_append, digs_len, hp])
  unfold vX
  rw [this, Nat.mod_eq_of_lt he]
theorem back_M (hL : L = pre ++ (flat (ptsD neg l (e : Int)) ++ suf)) (hp : pre.length = p) (hm : l.length < 256) : vM L p = l.length := by
  have h := back_eq hL
  rw [← List.append_assoc, ← List.append_assoc] at h
  have := part_at h (p := p + 3) (by rw [List.length_append, List.length_append, digs_len, digs_len, hp])
  unfold vM
  rw [this, Nat.mod_eq_of_lt hm]
  rfl
theorem back_limb (hL : L = pre ++ (flat (ptsD neg l (e : Int)) ++ suf)) (hp : pre.length = p) (h0 : ∀ x ∈ l, 0 ≤ x) (h1 : ∀ x ∈ l, x < 4294967296) (k : Nat) (hk : k < l.length) : limbAt L p k = l.getD k 0 := by
  have h := back_eq hL
  rw [flat_map_split l k hk] at h
  have e2 : L = (pre ++ (digs (if neg then 1 else 0) 1 ++ (digs e 2 ++ (digs l.length 1 ++ flat ((l.take k).map (fun x => (x.toNat, 4))))))) ++ (digs (l.getD k 0).toNat 4 ++ (flat ((l.drop (k + 1)).map (fun x => (x.toNat, 4))) ++ suf)) := by
    rw [h]
    simp only [List.append_assoc]
  have hlen : (pre ++ (digs (if neg then 1 else 0) 1 ++ (digs e 2 ++ (digs l.length 1 ++ flat ((l.take k).map (fun x => (x.toNat, 4))))))).length = p + 4 + 4 * k := by
    simp only [List.length_append, digs_len, flat_map_len, List.length_take, hp]
    omega
  have := part_at e2 hlen
  unfold limbAt
  have hmem : l.getD k 0 ∈ l := by rw [List.getD_eq_getElem?_getD, List.getElem?_eq_getElem hk]; exact List.getElem_mem _
  have a := h0 _ hmem
  have b := h1 _ hmem
  rw [this, Nat.mod_eq_of_lt (by omega)]
  omega
theorem back_limbs (hL : L = pre ++ (flat (ptsD neg l (e : Int)) ++ suf)) (hp : pre.length = p) (h0 : ∀ x ∈ l, 0 ≤ x) (h1 : ∀ x ∈ l, x < 4294967296) : limbsOf L p l.length = l := by
  refine List.ext_getElem (limbs_len _ _ _) fun k h2 h3 => ?_
  have := back_limb hL hp h0 h1 k h3
  simp only [limbsOf, List.getElem_map, List.getElem_range]
  rw [this, List.getD_eq_getElem?_getD, List.getElem?_eq_getElem h3]
  rfl
theorem back_E (hL : L = pre ++ (flat (ptsD neg l (e : Int)) ++ suf)) (hp : pre.length = p) (h0 : ∀ x ∈ l, 0 ≤ x) (h1 : ∀ x ∈ l, x < 4294967296) (hd : mayD neg l (e : Int) = true) (he : e < 65536) (hm : l.length < 256) : dyE L (p : Int) = 0 := by
  have hlen : L.length = p + (4 + 4 * l.length) + suf.length := by rw [hL, List.length_append, List.length_append, flat_len, total_pts, hp]; omega
  unfold dyE
  simp only [Int.toNat_natCast, back_N hL hp, back_X hL hp he, back_M hL hp hm, back_limbs hL hp h0 h1]
  rw [if_neg (by unfold rdrE; rw [if_pos ⟨by omega, by omega⟩]; decide), if_neg (by omega), if_neg (by omega)]
  have e1 : ((if neg = true then (1 : Int) else 0) == 1) = neg := by cases neg <;> rfl
  have e2 : decide (1 < (if neg = true then (1 : Int) else 0)) = false := by cases neg <;> rfl
  rw [e1, e2, hd]
  rfl
end
/-- Descriptors, tags: so many, one behind the other. -/
def lpD (l : List Int) : Nat → Option Nat → List Tm → Option Nat × List Tm
  | 0, st, acc => (st, acc)
  | _ + 1, none, acc => (none, acc)
  | k + 1, some p, acc => lpD l k (rN l (rN l (some p) 1).1 4).1 (acc ++ [((rN l (some p) 1).2, (rN l (rN l (some p) 1).1 4).2)])
def lpN (l : List Int) : Nat → Option Nat → List Nat → Option Nat × List Nat
  | 0, st, acc => (st, acc)
  | _ + 1, none, acc => (none, acc)
  | k + 1, some p, acc => lpN l k (rN l (some p) 4).1 (acc ++ [(rN l (some p) 4).2.toNat])
/-- The four numbers ahead. -/
structure Hd where
  st : Option Nat
  fr : Int
  tt : Int
  ep : Int
  nu : Int
def hdR (l : List Int) : Hd :=
  ⟨(rN l (rN l (rN l (rN l (some 0) 1).1 1).1 2).1 3).1, (rN l (some 0) 1).2, (rN l (rN l (some 0) 1).1 1).2, (rN l (rN l (rN l (some 0) 1).1 1).1 2).2, (rN l (rN l (rN l (rN l (some 0) 1).1 1).1 2).1 3).2⟩
def zM : Ms := ⟨⟨false, [], 0⟩, ⟨false, [], 0⟩, ⟨false, [], 0⟩, ⟨false, [], 0⟩⟩
/-- What a content of a kind says. -/
def dec (k : Int) (l : List Int) : Option Nat × Ml :=
  let h := hdR l
  if k = 1 then ((rD l (rD l h.st).1).1, ⟨k, h.fr, h.tt, h.ep, h.nu, 0, ⟨(rD l h.st).2, (rD l (rD l h.st).1).2, ⟨false, [], 0⟩, ⟨false, [], 0⟩⟩, false, [], false, 0, 0, []⟩)
  else if k = 2 then ((rD l (rD l h.st).1).1, ⟨k, h.fr, h.tt, h.ep, h.nu, 0, ⟨⟨false, [], 0⟩, ⟨false, [], 0⟩, (rD l h.st).2, (rD l (rD l h.st).1).2⟩, false, [], false, 0, 0, []⟩)
  else if k = 3 then ((rD l (rD l (rN l h.st 3).1).1).1, ⟨k, h.fr, h.tt, h.ep, h.nu, (rN l h.st 3).2, ⟨⟨false, [], 0⟩, ⟨false, [], 0⟩, (rD l (rN l h.st 3).1).2, (rD l (rD l (rN l h.st 3).1).1).2⟩, false, [], false, 0, 0, []⟩)
  else if k = 4 then ((rN l h.st 3).1, ⟨k, h.fr, h.tt, h.ep, h.nu, (rN l h.st 3).2, zM, false, [], false, 0, 0, []⟩)
  else if k = 5 then ((lpD l (rN l (rN l h.st 1).1 1).2.toNat (rN l (rN l h.st 1).1 1).1 []).1, ⟨k, h.fr, h.tt, h.ep, h.nu, 0, zM, (rN l h.st 1).2 == 1, (lpD l (rN l (rN l h.st 1).1 1).2.toNat (rN l (rN l h.st 1).1 1).1 []).2, false, 0, 0, []⟩)
  else if k = 6 then
    ((lpN l (rN l (rN l (rN l (rN l h.st 1).1 4).1 4).1 1).2.toNat (rN l (rN l (rN l (rN l h.st 1).1 4).1 4).1 1).1 []).1,
     ⟨k, h.fr, h.tt, h.ep, h.nu, 0, zM, false, [], (rN l h.st 1).2 == 1, (rN l (rN l h.st 1).1 4).2 - 2147483648, (rN l (rN l (rN l h.st 1).1 4).1 4).2 - 2147483648, (lpN l (rN l (rN l (rN l (rN l h.st 1).1 4).1 4).1 1).2.toNat (rN l (rN l (rN l (rN l h.st 1).1 4).1 4).1 1).1 []).2⟩)
  else (h.st, ⟨k, h.fr, h.tt, h.ep, h.nu, 0, zM, false, [], false, 0, 0, []⟩)
/-- A content that is a mail's. -/
def GoodM (k : Int) (l : List Int) (m : Ml) : Prop := (dec k l).1.isSome = true ∧ m = (dec k l).2 ∧ okL m ∧ flat (conP m) = l
theorem rN_flat {l : List Int} {pre suf : List (Nat × Nat)} {x s : Nat} (hl : l = flat (pre ++ (x, s) :: suf)) (hx : x < 256 ^ s) : rN l (some (total pre)) s = (some (total (pre ++ [(x, s)])), (x : Int)) := by
  have e : l = flat pre ++ (digs x s ++ flat suf) := by rw [hl, flat_app, flat]
  have hlen : l.length = total pre + s + total suf := by rw [hl, flat_len, total_app, total]; omega
  have h := part_at e (flat_len pre)
  unfold rN
  simp only
  rw [if_pos (by omega), h, Nat.mod_eq_of_lt hx, total_app]
  simp [total]
theorem rD_flat {l : List Int} {pre suf : List (Nat × Nat)} {d : Dy} (hl : l = flat (pre ++ (ptD d ++ suf))) (hd : mayd d = true) (hb : ∀ x ∈ d.ls, x < 4294967296) : rD l (some (total pre)) = (some (total (pre ++ ptD d)), d) := by
  have hx := mayd_ex hd
  have hn := mayd_len hd
  obtain ⟨ng, ls, ex⟩ := d
  simp only at hx hn hb
  obtain ⟨e, rfl⟩ : ∃ e : Nat, ex = (e : Int) := ⟨ex.toNat, by omega⟩
  have e0 : l = flat pre ++ (flat (ptsD ng (ls.map Int.ofNat) (e : Int)) ++ flat suf) := by rw [hl, flat_app, flat_app]; rfl
  have h0 : ∀ x ∈ ls.map Int.ofNat, 0 ≤ x := fun x hx => by obtain ⟨y, _, rfl⟩ := List.mem_map.1 hx; exact Int.natCast_nonneg y
  have h1 : ∀ x ∈ ls.map Int.ofNat, x < 4294967296 := fun x hx => by obtain ⟨y, hy, rfl⟩ := List.mem_map.1 hx; have := hb y hy; show (y : Int) < _; omega
  have hM := back_M e0 (flat_len pre) (by simp; omega)
  have hN := back_N e0 (flat_len pre)
  have hX := back_X e0 (flat_len pre) (by omega)
  have hL := back_limbs e0 (flat_len pre) h0 h1
  have hE := back_E e0 (flat_len pre) h0 h1 hd (by omega) (by simp; omega)
  unfold rD
  simp only
  rw [if_pos hE]
  unfold dyO
  rw [hM, hL, hN, hX, total_app, ptD_total]
  simp only [List.length_map, List.map_map]
  have e1 : ((if ng = true then (1 : Int) else 0) == 1) = ng := by cases ng <;> rfl
  have e2 : ls.map (Int.toNat ∘ Int.ofNat) = ls := by rw [show (Int.toNat ∘ Int.ofNat) = id from by funext x; rfl, List.map_id]
  rw [e1, e2]
  simp [Nat.add_assoc]
theorem lpD_flat : ∀ (ds : List Tm) (l : List Int) (pre suf : List (Nat × Nat)) (acc : List Tm), l = flat (pre ++ (dsP ds ++ suf)) → (∀ i, i < ds.length → mayT (tz ds i) = true) → lpD l ds.length (some (total pre)) acc = (some (total (pre ++ dsP ds)), acc ++ ds)
  | [], l, pre, suf, acc, _, _ => by simp [lpD, dsP]
  | d :: r, l, pre, suf, acc, h, hm => by
    have hd := hm 0 (by simp)
    simp only [tz, List.getD_cons_zero, mayT, Bool.and_eq_true, decide_eq_true_eq] at hd
    have e : dsP (d :: r) = (d.1.toNat, 1) :: (d.2.toNat, 4) :: dsP r := rfl
    rw [e] at h ⊢
    have h1 := rN_flat (l := l) (pre := pre) (suf := (d.2.toNat, 4) :: (dsP r ++ suf)) (x := d.1.toNat) (s := 1) (by rw [h]; rfl) (by omega)
    have h2 := rN_flat (l := l) (pre := pre ++ [(d.1.toNat, 1)]) (suf := dsP r ++ suf) (x := d.2.toNat) (s := 4) (by rw [h]; simp) (by omega)
    rw [List.length_cons, lpD, h1]
    simp only
    rw [h2]
    simp only
    have ih := lpD_flat r l ((pre ++ [(d.1.toNat, 1)]) ++ [(d.2.toNat, 4)]) suf (acc ++ [((d.1.toNat : Int), (d.2.toNat : Int))]) (by rw [h]; simp) (fun i hi => hm (i + 1) (by simpa using hi))
    rw [ih]
    obtain ⟨d1, d2⟩ := d
    simp only at hd ⊢
    rw [show ((d1.toNat : Nat) : Int) = d1 by omega, show ((d2.toNat : Nat) : Int) = d2 by omega]
    simp
theorem lpN_flat : ∀ (ls : List Nat) (l : List Int) (pre suf : List (Nat × Nat)) (acc : List Nat), l = flat (pre ++ (lsP ls ++ suf)) → (∀ x ∈ ls, x < 4294967296) → lpN l ls.length (some (total pre)) acc = (some (total (pre ++ lsP ls)), acc ++ ls)
  | [], l, pre, suf, acc, _, _ => by simp [lpN, lsP]
  | d :: r, l, pre, suf, acc, h, hm => by
    have hd := hm d (by simp)
    have e : lsP (d :: r) = (d, 4) :: lsP r := rfl
    rw [e] at h ⊢
    have h1 := rN_flat (l := l) (pre := pre) (suf := lsP r ++ suf) (x := d) (s := 4) (by rw [h]; rfl) (by omega)
    rw [List.length_cons, lpN, h1]
    simp only
    have ih := lpN_flat r l (pre ++ [(d, 4)]) suf (acc ++ [d]) (by rw [h]; simp) (fun x hx => hm x (by simp [hx]))
    rw [Int.toNat_natCast, ih]
    simp
theorem hdR_flat {l : List Int} {m : Ml} {suf : List (Nat × Nat)} (hl : l = flat (hdP m ++ suf)) (h : numL m) : hdR l = ⟨some 7, m.fr, m.tt, m.ep, m.nu⟩ := by
  obtain ⟨k1, k2, ⟨n1, n2⟩, n3, n4, n5, n6, n7, n8⟩ := h
  have f1 := badN_no n1
  have f2 := badN_no n2
  have q1 := rN_flat (l := l) (pre := []) (x := m.fr.toNat) (s := 1) (suf := (m.tt.toNat, 1) :: (m.ep.toNat, 2) :: (m.nu.toNat, 3) :: suf) (by rw [hl]; rfl) (by omega)
  have q2 := rN_flat (l := l) (pre := [(m.fr.toNat, 1)]) (x := m.tt.toNat) (s := 1) (suf := (m.ep.toNat, 2) :: (m.nu.toNat, 3) :: suf) (by rw [hl]; rfl) (by omega)
  have q3 := rN_flat (l := l) (pre := [(m.fr.toNat, 1), (m.tt.toNat, 1)]) (x := m.ep.toNat) (s := 2) (suf := (m.nu.toNat, 3) :: suf) (by rw [hl]; rfl) (by omega)
  have q4 := rN_flat (l := l) (pre := [(m.fr.toNat, 1), (m.tt.toNat, 1), (m.ep.toNat, 2)]) (x := m.nu.toNat) (s := 3) (suf := suf) (by rw [hl]; rfl) (by omega)
  simp only [total, List.nil_append, List.cons_append, Nat.add_zero, Nat.zero_add] at q1 q2 q3 q4
  unfold hdR
  rw [q1]
  simp only
  rw [q2]
  simp only
  rw [q3]
  simp only
  rw [q4]
  simp only
  rw [show ((m.fr.toNat : Nat) : Int) = m.fr by omega, show ((m.tt.toNat : Nat) : Int) = m.tt by omega, show ((m.ep.toNat : Nat) : Int) = m.ep by omega, show ((m.nu.toNat : Nat) : Int) = m.nu by omega]
theorem bP_eq (b : Bool) : (((bP b : Nat) : Int) == 1) = b := by cases b <;> rfl
/-- What was written is read. -/
theorem dec_back {m : Ml} (h : okL m) (hlt : ltL m) : GoodM m.kd (flat (conP m)) m := by
  obtain ⟨hn, hm, hd, he, hl, hu⟩ := h
  have hok : okL m := ⟨hn, hm, hd, he, hl, hu⟩
  obtain ⟨m0, m1, m2, m3⟩ := mayM_parts hm
  obtain ⟨b0, b1, b2, b3⟩ := hlt.1
  obtain ⟨d1, d2⟩ := chkD_ok hd
  obtain ⟨e1, e2⟩ := mayE_ok he
  obtain ⟨k1, k2, _, _, _, _, _, n7, n8⟩ := id hn
  have hc : m.kd = 1 ∨ m.kd = 2 ∨ m.kd = 3 ∨ m.kd = 4 ∨ m.kd = 5 ∨ m.kd = 6 := by omega
  have h7 : total (hdP m) = 7 := rfl
  suffices hs : (dec m.kd (flat (conP m))).1.isSome = true ∧ m = (dec m.kd (flat (conP m))).2 from ⟨hs.1, hs.2, hok, rfl⟩
  rcases hc with hk | hk | hk | hk | hk | hk
  · have ec : conP m = hdP m ++ (ptD m.give.s ++ ptD m.give.w) := by unfold conP; rw [if_pos hk]
    rw [ec]
    have hh := hdR_flat (l := flat (hdP m ++ (ptD m.give.s ++ ptD m.give.w))) rfl hn
    have r1 := rD_flat (l := flat (hdP m ++ (ptD m.give.s ++ ptD m.give.w))) (pre := hdP m) rfl m0 b0
    have r2 := rD_flat (l := flat (hdP m ++ (ptD m.give.s ++ ptD m.give.w))) (pre := hdP m ++ ptD m.give.s) (suf := []) (by simp) m1 b1
    rw [h7] at r1
    unfold dec
    rw [if_pos hk, hh]
    simp only
    rw [r1]
    simp only
    rw [r2]
    refine ⟨rfl, ?_⟩
    conv => lhs; rw [hu]
    unfold usedL
    rw [if_pos hk]
    rfl
  · have ec : conP m = hdP m ++ (ptD m.give.c ++ ptD m.give.a) := by unfold conP; rw [if_neg (by omega), if_pos hk]
    rw [ec]
    have hh := hdR_flat (l := flat (hdP m ++ (ptD m.give.c ++ ptD m.give.a))) rfl hn
    have r1 := rD_flat (l := flat (hdP m ++ (ptD m.give.c ++ ptD m.give.a))) (pre := hdP m) rfl m2 b2
    have r2 := rD_flat (l := flat (hdP m ++ (ptD m.give.c ++ ptD m.give.a))) (pre := hdP m ++ ptD m.give.c) (suf := []) (by simp) m3 b3
    rw [h7] at r1
    unfold dec
    rw [if_neg (by omega), if_pos hk, hh]
    simp only
    rw [r1]
    simp only
    rw [r2]
    refine ⟨rfl, ?_⟩
    conv => lhs; rw [hu]
    unfold usedL
    rw [if_neg (by omega), if_pos hk]
    rfl
  · have ec : conP m = hdP m ++ ((m.ab.toNat, 3) :: (ptD m.give.c ++ ptD m.give.a)) := by unfold conP; rw [if_neg (by omega), if_neg (by omega), if_pos hk]
    rw [ec]
    have hh := hdR_flat (l := flat (hdP m ++ ((m.ab.toNat, 3) :: (ptD m.give.c ++ ptD m.give.a)))) rfl hn
    have r0 := rN_flat (l := flat (hdP m ++ ((m.ab.toNat, 3) :: (ptD m.give.c ++ ptD m.give.a)))) (pre := hdP m) (x := m.ab.toNat) (s := 3) rfl (by omega)
    have r1 := rD_flat (l := flat (hdP m ++ ((m.ab.toNat, 3) :: (ptD m.give.c ++ ptD m.give.a)))) (pre := hdP m ++ [(m.ab.toNat, 3)]) (suf := ptD m.give.a) (by simp) m2 b2
    have r2 := rD_flat (l := flat (hdP m ++ ((m.ab.toNat, 3) :: (ptD m.give.c ++ ptD m.give.a)))) (pre := (hdP m ++ [(m.ab.toNat, 3)]) ++ ptD m.give.c) (suf := []) (by simp) m3 b3
    rw [h7] at r0
    unfold dec
    rw [if_neg (by omega), if_neg (by omega), if_pos hk, hh]
    simp only
    rw [r0]
    simp only
    rw [r1]
    simp only
    rw [r2]
    refine ⟨rfl, ?_⟩
    conv => lhs; rw [hu]
    unfold usedL
    rw [if_neg (by omega), if_neg (by omega), if_pos hk, show ((m.ab.toNat : Nat) : Int) = m.ab by omega]
    rfl
  · have ec : conP m = hdP m ++ [(m.ab.toNat, 3)] := by unfold conP; rw [if_neg (by omega), if_neg (by omega), if_neg (by omega), if_pos hk]
    rw [ec]
    have hh := hdR_flat (l := flat (hdP m ++ [(m.ab.toNat, 3)])) rfl hn
    have r0 := rN_flat (l := flat (hdP m ++ [(m.ab.toNat, 3)])) (pre := hdP m) (x := m.ab.toNat) (s := 3) (suf := []) rfl (by omega)
    rw [h7] at r0
    unfold dec
    rw [if_neg (by omega), if_neg (by omega), if_neg (by omega), if_pos hk, hh]
    simp only
    rw [r0]
    refine ⟨rfl, ?_⟩
    conv => lhs; rw [hu]
    unfold usedL
    rw [if_neg (by omega), if_neg (by omega), if_neg (by omega), if_pos hk, show ((m.ab.toNat : Nat) : Int) = m.ab by omega]
    rfl
  · have ec : conP m = hdP m ++ ((bP m.wa, 1) :: (m.ds.length, 1) :: dsP m.ds) := by unfold conP; rw [if_neg (by omega), if_neg (by omega), if_neg (by omega), if_neg (by omega), if_pos hk]
    rw [ec]
    obtain ⟨L, hL⟩ : ∃ L, flat (hdP m ++ ((bP m.wa, 1) :: (m.ds.length, 1) :: dsP m.ds)) = L := ⟨_, rfl⟩
    have hh := hdR_flat (l := L) hL.symm hn
    have r0 := rN_flat (l := L) (pre := hdP m) (x := bP m.wa) (s := 1) hL.symm (bP_lt _)
    have r1 := rN_flat (l := L) (pre := hdP m ++ [(bP m.wa, 1)]) (x := m.ds.length) (s := 1) (suf := dsP m.ds) (by rw [← hL]; simp) (by omega)
    have r2 := lpD_flat m.ds L ((hdP m ++ [(bP m.wa, 1)]) ++ [(m.ds.length, 1)]) [] [] (by rw [← hL]; simp) d2
    rw [h7] at r0
    rw [hL]
    unfold dec
    rw [if_neg (by omega), if_neg (by omega), if_neg (by omega), if_neg (by omega), if_pos hk, hh]
    simp only
    rw [r0]
    simp only
    rw [r1]
    simp only
    rw [Int.toNat_natCast, r2, bP_eq]
    refine ⟨rfl, ?_⟩
    conv => lhs; rw [hu]
    unfold usedL
    rw [if_neg (by omega), if_neg (by omega), if_neg (by omega), if_neg (by omega), if_pos hk]
    rfl
  · have ec : conP m = hdP m ++ ((bP m.eh, 1) :: ((m.e1 + 2147483648).toNat, 4) :: ((m.e2 + 2147483648).toNat, 4) :: (m.ls.length, 1) :: lsP m.ls) := by unfold conP; rw [if_neg (by omega), if_neg (by omega), if_neg (by omega), if_neg (by omega), if_neg (by omega)]
    rw [ec]
    obtain ⟨L, hL⟩ : ∃ L, flat (hdP m ++ ((bP m.eh, 1) :: ((m.e1 + 2147483648).toNat, 4) :: ((m.e2 + 2147483648).toNat, 4) :: (m.ls.length, 1) :: lsP m.ls)) = L := ⟨_, rfl⟩
    have hh := hdR_flat (l := L) hL.symm hn
    have r0 := rN_flat (l := L) (pre := hdP m) (x := bP m.eh) (s := 1) hL.symm (bP_lt _)
    have r1 := rN_flat (l := L) (pre := hdP m ++ [(bP m.eh, 1)]) (x := (m.e1 + 2147483648).toNat) (s := 4) (suf := ((m.e2 + 2147483648).toNat, 4) :: (m.ls.length, 1) :: lsP m.ls) (by rw [← hL]; simp) (by omega)
    have r2 := rN_flat (l := L) (pre := (hdP m ++ [(bP m.eh, 1)]) ++ [((m.e1 + 2147483648).toNat, 4)]) (x := (m.e2 + 2147483648).toNat) (s := 4) (suf := (m.ls.length, 1) :: lsP m.ls) (by rw [← hL]; simp) (by omega)
    have r3 := rN_flat (l := L) (pre := ((hdP m ++ [(bP m.eh, 1)]) ++ [((m.e1 + 2147483648).toNat, 4)]) ++ [((m.e2 + 2147483648).toNat, 4)]) (x := m.ls.length) (s := 1) (suf := lsP m.ls) (by rw [← hL]; simp) (by have := hl.2; omega)
    have r4 := lpN_flat m.ls L ((((hdP m ++ [(bP m.eh, 1)]) ++ [((m.e1 + 2147483648).toNat, 4)]) ++ [((m.e2 + 2147483648).toNat, 4)]) ++ [(m.ls.length, 1)]) [] [] (by rw [← hL]; simp) hlt.2
    rw [h7] at r0
    rw [hL]
    unfold dec
    rw [if_neg (by omega), if_neg (by omega), if_neg (by omega), if_neg (by omega), if_neg (by omega), if_pos hk, hh]
    simp only
    rw [r0]
    simp only
    rw [r1]
    simp only
    rw [r2]
    simp only
    rw [r3]
    simp only
    rw [Int.toNat_natCast, r4, bP_eq]
    refine ⟨rfl, ?_⟩
    conv => lhs; rw [hu]
    unfold usedL
    rw [if_neg (by omega), if_neg (by omega), if_neg (by omega), if_neg (by omega), if_neg (by omega), show (((m.e1 + 2147483648).toNat : Nat) : Int) - 2147483648 = m.e1 by omega, show (((m.e2 + 2147483648).toNat : Nat) : Int) - 2147483648 = m.e2 by omega]
    rfl
end Go.Proofs.Ytjmhefkmpfkpbaa
