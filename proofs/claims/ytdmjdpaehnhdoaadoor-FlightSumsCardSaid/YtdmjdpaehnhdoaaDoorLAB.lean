/- Flight: entries: what they read as, rows of them | Flight: entries: one more behind a row -/
import Derived.Test.YtdmjdpaehnhdoaaDoorMDG
namespace Go.Proofs.YtdmjdpaehnhdoaaDoor
open Go.ChangeShapes Go.WideShapes Go.ChangeAt Go.RowKit
set_option linter.unusedSimpArgs false
set_option linter.unusedVariables false
structure En where
  nu : Int
  ep : Int
  cp : Int
  give : Ms
deriving DecidableEq
def fdsD (d : Dy) : List Fd := [.val (.bool d.neg), .row .u32 d.ls, .val (.int .i64 d.ex)]
def fdsM (m : Ms) : List Fd := fdsD m.s ++ (fdsD m.w ++ (fdsD m.c ++ fdsD m.a))
def fdsE (x : En) : List Fd := .val (.int .i64 x.nu) :: .val (.int .i64 x.ep) :: .val (.int .i64 x.cp) :: fdsM x.give
abbrev Ens (w : World) (B : Nat) (A : Option Addr) (n : Nat) (l : List En) : Prop := Recs w B 15 A n (l.map fdsE)
theorem ens_len {w : World} {B n : Nat} {A : Option Addr} {l : List En} (h : Ens w B A n l) : l.length = n := by have := h.1; simpa using this
theorem add_lit (a : Addr) {j : Nat} (h : 0 < j) : a.add j = ⟨a.block, a.off + j, none⟩ := by
  unfold Addr.add
  rw [if_neg (by omega)]
/-- An entry's cells at an address. -/
def AtE (w : World) (p : Addr) (nu ep cp : Int) (ag0 : Bool) (aX0 : Option Addr) (an0 ac0 : Nat) (ae0 : Int) (ag1 : Bool) (aX1 : Option Addr) (an1 ac1 : Nat) (ae1 : Int) (ag2 : Bool) (aX2 : Option Addr) (an2 ac2 : Nat) (ae2 : Int) (ag3 : Bool) (aX3 : Option Addr) (an3 ac3 : Nat) (ae3 : Int) : Prop := w.cell? p = some (.int .i64 nu) ∧ w.cell? ⟨(p).block, (p).off + 1, none⟩ = some (.int .i64 ep) ∧ w.cell? ⟨(p).block, (p).off + 2, none⟩ = some (.int .i64 cp) ∧ w.cell? ⟨(p).block, (p).off + 3, none⟩ = some (.bool ag0) ∧ w.cell? ⟨(p).block, (p).off + 4, none⟩ = some (.slice aX0 an0 ac0) ∧ w.cell? ⟨(p).block, (p).off + 5, none⟩ = some (.int .i64 ae0) ∧ w.cell? ⟨(p).block, (p).off + 6, none⟩ = some (.bool ag1) ∧ w.cell? ⟨(p).block, (p).off + 7, none⟩ = some (.slice aX1 an1 ac1) ∧ w.cell? ⟨(p).block, (p).off + 8, none⟩ = some (.int .i64 ae1) ∧ w.cell? ⟨(p).block, (p).off + 9, none⟩ = some (.bool ag2) ∧ w.cell? ⟨(p).block, (p).off + 10, none⟩ = some (.slice aX2 an2 ac2) ∧ w.cell? ⟨(p).block, (p).off + 11, none⟩ = some (.int .i64 ae2) ∧ w.cell? ⟨(p).block, (p).off + 12, none⟩ = some (.bool ag3) ∧ w.cell? ⟨(p).block, (p).off + 13, none⟩ = some (.slice aX3 an3 ac3) ∧ w.cell? ⟨(p).block, (p).off + 14, none⟩ = some (.int .i64 ae3)
theorem AtE.below {w w' : World} {B : Nat} {p : Addr} {nu ep cp : Int} {ag0 : Bool} {aX0 : Option Addr} {an0 ac0 : Nat} {ae0 : Int} {ag1 : Bool} {aX1 : Option Addr} {an1 ac1 : Nat} {ae1 : Int} {ag2 : Bool} {aX2 : Option Addr} {an2 ac2 : Nat} {ae2 : Int} {ag3 : Bool} {aX3 : Option Addr} {an3 ac3 : Nat} {ae3 : Int} (h : AtE w p nu ep cp ag0 aX0 an0 ac0 ae0 ag1 aX1 an1 ac1 ae1 ag2 aX2 an2 ac2 ae2 ag3 aX3 an3 ac3 ae3) (hb : Below B w w') (hp : p.block < B) : AtE w' p nu ep cp ag0 aX0 an0 ac0 ae0 ag1 aX1 an1 ac1 ae1 ag2 aX2 an2 ac2 ae2 ag3 aX3 an3 ac3 ae3 := by
  unfold AtE at h ⊢
  obtain ⟨h0, h1, h2, h3, h4, h5, h6, h7, h8, h9, h10, h11, h12, h13, h14⟩ := h
  exact ⟨(hb.cell hp).trans h0, (hb.cell (p := ⟨p.block, p.off + 1, none⟩) hp).trans h1, (hb.cell (p := ⟨p.block, p.off + 2, none⟩) hp).trans h2, (hb.cell (p := ⟨p.block, p.off + 3, none⟩) hp).trans h3, (hb.cell (p := ⟨p.block, p.off + 4, none⟩) hp).trans h4, (hb.cell (p := ⟨p.block, p.off + 5, none⟩) hp).trans h5, (hb.cell (p := ⟨p.block, p.off + 6, none⟩) hp).trans h6, (hb.cell (p := ⟨p.block, p.off + 7, none⟩) hp).trans h7, (hb.cell (p := ⟨p.block, p.off + 8, none⟩) hp).trans h8, (hb.cell (p := ⟨p.block, p.off + 9, none⟩) hp).trans h9, (hb.cell (p := ⟨p.block, p.off + 10, none⟩) hp).trans h10, (hb.cell (p := ⟨p.block, p.off + 11, none⟩) hp).trans h11, (hb.cell (p := ⟨p.block, p.off + 12, none⟩) hp).trans h12, (hb.cell (p := ⟨p.block, p.off + 13, none⟩) hp).trans h13, (hb.cell (p := ⟨p.block, p.off + 14, none⟩) hp).trans h14⟩
theorem ens_rel {w : World} {n i : Nat} {A : Option Addr} {l : List En} (h : Ens w w.heap.size A n l) (hi : i < n) : ∃ (ad : Addr) (nu ep cp : Int) (ag0 : Bool) (aX0 : Option Addr) (an0 ac0 : Nat) (ae0 : Int) (ag1 : Bool) (aX1 : Option Addr) (an1 ac1 : Nat) (ae1 : Int) (ag2 : Bool) (aX2 : Option Addr) (an2 ac2 : Nat) (ae2 : Int) (ag3 : Bool) (aX3 : Option Addr) (an3 ac3 : Nat) (ae3 : Int) (m : Ms), A = some ad ∧ ad.block < w.heap.size ∧ l[i]? = some ⟨nu, ep, cp, m⟩ ∧ RdM w w.heap.size ag0 aX0 an0 ac0 ae0 ag1 aX1 an1 ac1 ae1 ag2 aX2 an2 ac2 ae2 ag3 aX3 an3 ac3 ae3 m ∧
    ∀ w', Below w.heap.size w w' → RdM w' w'.heap.size ag0 aX0 an0 ac0 ae0 ag1 aX1 an1 ac1 ae1 ag2 aX2 an2 ac2 ae2 ag3 aX3 an3 ac3 ae3 m ∧ AtE w' (ad.add (i * 15)) nu ep cp ag0 aX0 an0 ac0 ae0 ag1 aX1 an1 ac1 ae1 ag2 aX2 an2 ac2 ae2 ag3 aX3 an3 ac3 ae3 := by
  obtain ⟨ad, r, e, hb, hr, hc⟩ := h.at_ hi
  rw [List.getElem?_map] at hr
  obtain ⟨c, hl, rfl⟩ := Option.map_eq_some_iff.1 hr
  obtain ⟨nu, ep, cp, ⟨⟨g0, l0, e0⟩, ⟨g1, l1, e1⟩, ⟨g2, l2, e2⟩, ⟨g3, l3, e3⟩⟩⟩ := c
  have z0 := hc 0 _ rfl
  have z1 := hc 1 _ rfl
  have z2 := hc 2 _ rfl
  have y0 := hc 3 _ rfl
  obtain ⟨X0, n0, c0, p0, q0, r0, x0⟩ := hc 4 _ rfl
  have u0 := hc 5 _ rfl
  have y1 := hc 6 _ rfl
  obtain ⟨X1, n1, c1, p1, q1, r1, x1⟩ := hc 7 _ rfl
  have u1 := hc 8 _ rfl
  have y2 := hc 9 _ rfl
  obtain ⟨X2, n2, c2, p2, q2, r2, x2⟩ := hc 10 _ rfl
  have u2 := hc 11 _ rfl
  have y3 := hc 12 _ rfl
  obtain ⟨X3, n3, c3, p3, q3, r3, x3⟩ := hc 13 _ rfl
  have u3 := hc 14 _ rfl
  rw [← add_of_add, add_lit _ (by omega)] at z1 z2 y0 x0 u0 y1 x1 u1 y2 x2 u2 y3 x3 u3
  have hr : RdM w w.heap.size g0 X0 n0 c0 e0 g1 X1 n1 c1 e1 g2 X2 n2 c2 e2 g3 X3 n3 c3 e3 ⟨⟨g0, l0, e0⟩, ⟨g1, l1, e1⟩, ⟨g2, l2, e2⟩, ⟨g3, l3, e3⟩⟩ := ⟨⟨rfl, rfl, p0, q0, r0⟩, ⟨rfl, rfl, p1, q1, r1⟩, ⟨rfl, rfl, p2, q2, r2⟩, ⟨rfl, rfl, p3, q3, r3⟩⟩
  have ha : AtE w (ad.add (i * 15)) nu ep cp g0 X0 n0 c0 e0 g1 X1 n1 c1 e1 g2 X2 n2 c2 e2 g3 X3 n3 c3 e3 := ⟨z0, z1, z2, y0, x0, u0, y1, x1, u1, y2, x2, u2, y3, x3, u3⟩
  exact ⟨ad, nu, ep, cp, g0, X0, n0, c0, e0, g1, X1, n1, c1, e1, g2, X2, n2, c2, e2, g3, X3, n3, c3, e3, _, e, hb, hl, hr, fun w' hw => ⟨hr.below hw hw.size, ha.below hw (by rw [block_of_add]; exact hb)⟩⟩
/-- An entry in memory of its own. -/
structure EO where
  x : En
  X0 : Option Addr
  c0 : Nat
  X1 : Option Addr
  c1 : Nat
  X2 : Option Addr
  c2 : Nat
  X3 : Option Addr
  c3 : Nat
def row15 (o : EO) : List Value := [.int .i64 o.x.nu, .int .i64 o.x.ep, .int .i64 o.x.cp, .bool o.x.give.s.neg, .slice o.X0 o.x.give.s.ls.length o.c0, .int .i64 o.x.give.s.ex, .bool o.x.give.w.neg, .slice o.X1 o.x.give.w.ls.length o.c1, .int .i64 o.x.give.w.ex, .bool o.x.give.c.neg, .slice o.X2 o.x.give.c.ls.length o.c2, .int .i64 o.x.give.c.ex, .bool o.x.give.a.neg, .slice o.X3 o.x.give.a.ls.length o.c3, .int .i64 o.x.give.a.ex]
def ownE (w : World) (base : Nat) (o : EO) : Prop := (o.x.give.s.ls.length ≤ o.c0 ∧ OwnR w base 71 o.X0 o.x.give.s.ls.length (ints .u32 o.x.give.s.ls)) ∧ (o.x.give.w.ls.length ≤ o.c1 ∧ OwnR w base 71 o.X1 o.x.give.w.ls.length (ints .u32 o.x.give.w.ls)) ∧ (o.x.give.c.ls.length ≤ o.c2 ∧ OwnR w base 71 o.X2 o.x.give.c.ls.length (ints .u32 o.x.give.c.ls)) ∧ (o.x.give.a.ls.length ≤ o.c3 ∧ OwnR w base 71 o.X3 o.x.give.a.ls.length (ints .u32 o.x.give.a.ls))
theorem ownE.map {w w' : World} {b b' : Nat} {o : EO} (h : ownE w b o) (hm : ∀ {X : Option Addr} {n : Nat} {xs : List Value}, OwnR w b 71 X n xs → OwnR w' b' 71 X n xs) : ownE w' b' o := ⟨⟨h.1.1, hm h.1.2⟩, ⟨h.2.1.1, hm h.2.1.2⟩, ⟨h.2.2.1.1, hm h.2.2.1.2⟩, ⟨h.2.2.2.1, hm h.2.2.2.2⟩⟩
def AccE (w : World) (base : Nat) (v : Value) (r : Nat) (l : List En) : Prop :=
  ∃ os : List EO, os.map (·.x) = l ∧ w.ownsRow base 48 15 v r (os.flatMap row15) ∧ ∀ o ∈ os, ownE w base o
theorem accE_nil (w : World) (base : Nat) : AccE w base (.slice none 0 0) 0 [] := ⟨[], rfl, World.ownsRow_nil _ _ _ _, by simp⟩
theorem AccE.below {w w' : World} {base r : Nat} {v : Value} {l : List En} (h : AccE w base v r l) (hb : Below w.heap.size w w') : AccE w' base v r l := by
  obtain ⟨os, e, ho, ht⟩ := h
  exact ⟨os, e, own_below ho hb, fun o ho => (ht o ho).map (fun h => h.below hb)⟩
theorem own_base_le {w : World} {b base size n : Nat} {e : TypeId} {v : Value} {xs : List Value} (h : w.ownsRow base e size v n xs) (hb : b ≤ base) : w.ownsRow b e size v n xs :=
  ⟨h.1, h.2.imp id fun ⟨g, c, cur, e1, h1, r⟩ => ⟨g, c, cur, e1, Nat.le_trans hb h1, r⟩⟩
theorem AccE.base_le {w : World} {b base r : Nat} {v : Value} {l : List En} (h : AccE w base v r l) (hb : b ≤ base) : AccE w b v r l := by
  obtain ⟨os, e, ho, ht⟩ := h
  exact ⟨os, e, own_base_le ho hb, fun o ho => (ht o ho).map (fun h => h.base_le hb)⟩
theorem flat15_len : ∀ os : List EO, (os.flatMap row15).length = os.length * 15
  | [] => rfl
  | x :: r => by rw [List.flatMap_cons, List.length_append, flat15_len r, List.length_cons]; simp [row15]; omega
theorem flat15_at : ∀ (os : List EO) (i j : Nat) (o : EO) (v : Value), os[i]? = some o → (row15 o)[j]? = some v → j < 15 → (os.flatMap row15)[i * 15 + j]? = some v
  | [], i, j, o, v, h, _, _ => by simp at h
  | x :: r, 0, j, o, v, h, hv, hj => by
    injection h with h
    subst h
    rw [List.flatMap_cons, Nat.zero_mul, Nat.zero_add, List.getElem?_append_left (by show j < 15; exact hj)]
    exact hv
  | x :: r, i + 1, j, o, v, h, hv, hj => by
    have e : (row15 x).length = 15 := rfl
    rw [List.flatMap_cons, List.getElem?_append_right (by rw [e]; omega), e, show (i + 1) * 15 + j - 15 = i * 15 + j by omega]
    exact flat15_at r i j o v (by simpa using h) hv hj
theorem flat15_one (os : List EO) : ∀ u ∈ os.flatMap row15, u.oneCell' = true := by
  intro u hu
  obtain ⟨o, _, ho⟩ := List.mem_flatMap.1 hu
  simp [row15] at ho
  rcases ho with rfl | rfl | rfl | rfl | rfl | rfl | rfl | rfl | rfl | rfl | rfl | rfl | rfl | rfl | rfl <;> rfl
end Go.Proofs.YtdmjdpaehnhdoaaDoor
namespace Go.Proofs.YtdmjdpaehnhdoaaDoor
open Go.ChangeShapes Go.WideShapes Go.ChangeAt Go.RowKit
set_option linter.unusedSimpArgs false
set_option linter.unusedVariables false
theorem own_blk_ne {w : World} {base size n : Nat} {e : TypeId} {v : Value} {xs : List Value} (h : w.ownsRow base e size v n xs) {g : Nat} {T : TypeId} {cs : Array Value} (hb : Blk w g T cs) (hT : T ≠ e) : v.ownBlock ≠ some g := by
  rcases h.2 with ⟨rfl, rfl⟩ | ⟨b, c, cur, rfl, h1, h2, _⟩
  · simp [Value.ownBlock]
  · intro e2
    simp [Value.ownBlock] at e2
    subst e2
    exact (show Blk w b e cur from h2).ne_ hb (Ne.symm hT) rfl
theorem set12 {w : World} {g : Nat} {T : TypeId} {z0 z1 z2 z3 z4 z5 z6 z7 z8 z9 z10 z11 z12 z13 z14 : Value} (h : Blk w g T #[z0, z1, z2, z3, z4, z5, z6, z7, z8, z9, z10, z11, z12, z13, z14]) (u3 u4 u5 u6 u7 u8 u9 u10 u11 u12 u13 u14 : Value) : Blk ((((((((((((w.setCell ⟨g, 3, none⟩ u3).setCell ⟨g, 4, none⟩ u4).setCell ⟨g, 5, none⟩ u5).setCell ⟨g, 6, none⟩ u6).setCell ⟨g, 7, none⟩ u7).setCell ⟨g, 8, none⟩ u8).setCell ⟨g, 9, none⟩ u9).setCell ⟨g, 10, none⟩ u10).setCell ⟨g, 11, none⟩ u11).setCell ⟨g, 12, none⟩ u12).setCell ⟨g, 13, none⟩ u13).setCell ⟨g, 14, none⟩ u14) g T #[z0, z1, z2, u3, u4, u5, u6, u7, u8, u9, u10, u11, u12, u13, u14] := by
  have h1 : Blk _ g T #[z0, z1, z2, u3, z4, z5, z6, z7, z8, z9, z10, z11, z12, z13, z14] := (show _ from by simpa using h.set_ 3 u3)
  have h2 : Blk _ g T #[z0, z1, z2, u3, u4, z5, z6, z7, z8, z9, z10, z11, z12, z13, z14] := (show _ from by simpa using h1.set_ 4 u4)
  have h3 : Blk _ g T #[z0, z1, z2, u3, u4, u5, z6, z7, z8, z9, z10, z11, z12, z13, z14] := (show _ from by simpa using h2.set_ 5 u5)
  have h4 : Blk _ g T #[z0, z1, z2, u3, u4, u5, u6, z7, z8, z9, z10, z11, z12, z13, z14] := (show _ from by simpa using h3.set_ 6 u6)
  have h5 : Blk _ g T #[z0, z1, z2, u3, u4, u5, u6, u7, z8, z9, z10, z11, z12, z13, z14] := (show _ from by simpa using h4.set_ 7 u7)
  have h6 : Blk _ g T #[z0, z1, z2, u3, u4, u5, u6, u7, u8, z9, z10, z11, z12, z13, z14] := (show _ from by simpa using h5.set_ 8 u8)
  have h7 : Blk _ g T #[z0, z1, z2, u3, u4, u5, u6, u7, u8, u9, z10, z11, z12, z13, z14] := (show _ from by simpa using h6.set_ 9 u9)
  have h8 : Blk _ g T #[z0, z1, z2, u3, u4, u5, u6, u7, u8, u9, u10, z11, z12, z13, z14] := (show _ from by simpa using h7.set_ 10 u10)
  have h9 : Blk _ g T #[z0, z1, z2, u3, u4, u5, u6, u7, u8, u9, u10, u11, z12, z13, z14] := (show _ from by simpa using h8.set_ 11 u11)
  have h10 : Blk _ g T #[z0, z1, z2, u3, u4, u5, u6, u7, u8, u9, u10, u11, u12, z13, z14] := (show _ from by simpa using h9.set_ 12 u12)
  have h11 : Blk _ g T #[z0, z1, z2, u3, u4, u5, u6, u7, u8, u9, u10, u11, u12, u13, z14] := (show _ from by simpa using h10.set_ 13 u13)
  have h12 : Blk _ g T #[z0, z1, z2, u3, u4, u5, u6, u7, u8, u9, u10, u11, u12, u13, u14] := (show _ from by simpa using h11.set_ 14 u14)
  exact h12
theorem accE_push {w0 w' : World} {base r : Nat} {v v' : Value} {os : List EO} {o : EO} (hown : w0.ownsRow base 48 15 v r (os.flatMap row15)) (ht : ∀ o ∈ os, ownE w0 base o) (hto : ownE w0 base o) (ho5 : w'.ownsRow base 48 15 v' (r + 1) (os.flatMap row15 ++ row15 o))
    (hk : ∀ b, b < w0.heap.size → v.ownBlock ≠ some b → v'.ownBlock ≠ some b ∧ ∀ t cs, Blk w0 b t cs → Blk w' b t cs) : AccE w' base v' (r + 1) (os.map (·.x) ++ [o.x]) := by
  have hm : ∀ {X : Option Addr} {n : Nat} {xs : List Value}, OwnR w0 base 71 X n xs → OwnR w' base 71 X n xs := fun h => ⟨h.1, fun h0 => by
    obtain ⟨g, cur, hA, hb, hh, ht⟩ := h.2 h0
    exact ⟨g, cur, hA, hb, (hk g hh.lt (own_blk_ne hown hh (by decide))).2 _ _ hh, ht⟩⟩
  refine ⟨os ++ [o], by simp, by simpa using ho5, fun x hx => ?_⟩
  rcases List.mem_append.1 hx with h | h
  · exact (ht x h).map hm
  · rw [List.mem_singleton.1 h]; exact hto.map hm
theorem boxedE {w wr w2 w9 : World} {v : Value} {r B9 : Nat} {l : List En} {nu ep cp : Int} {ag0 : Bool} {aX0 : Option Addr} {an0 ac0 : Nat} {ae0 : Int} {ag1 : Bool} {aX1 : Option Addr} {an1 ac1 : Nat} {ae1 : Int} {ag2 : Bool} {aX2 : Option Addr} {an2 ac2 : Nat} {ae2 : Int} {ag3 : Bool} {aX3 : Option Addr} {an3 ac3 : Nat} {ae3 : Int} {m : Ms} {X0 : Option Addr} {c0 : Nat} {X1 : Option Addr} {c1 : Nat} {X2 : Option Addr} {c2 : Nat} {X3 : Option Addr} {c3 : Nat} (hB : Below w.heap.size w wr) (hA : AccE wr w.heap.size v r l) (hrd : RdM w9 B9 ag0 aX0 an0 ac0 ae0 ag1 aX1 an1 ac1 ae1 ag2 aX2 an2 ac2 ae2 ag3 aX3 an3 ac3 ae3 m)
    (hb : Below (wr.alloc (.cells #[.int .i64 nu, .int .i64 ep, .int .i64 cp, .bool ag0, .slice aX0 an0 ac0, .int .i64 ae0, .bool ag1, .slice aX1 an1 ac1, .int .i64 ae1, .bool ag2, .slice aX2 an2 ac2, .int .i64 ae2, .bool ag3, .slice aX3 an3 ac3, .int .i64 ae3] 48)).heap.size (wr.alloc (.cells #[.int .i64 nu, .int .i64 ep, .int .i64 cp, .bool ag0, .slice aX0 an0 ac0, .int .i64 ae0, .bool ag1, .slice aX1 an1 ac1, .int .i64 ae1, .bool ag2, .slice aX2 an2 ac2, .int .i64 ae2, .bool ag3, .slice aX3 an3 ac3, .int .i64 ae3] 48)) w2) (h0 : an0 ≤ c0 ∧ OwnR w2 (wr.alloc (.cells #[.int .i64 nu, .int .i64 ep, .int .i64 cp, .bool ag0, .slice aX0 an0 ac0, .int .i64 ae0, .bool ag1, .slice aX1 an1 ac1, .int .i64 ae1, .bool ag2, .slice aX2 an2 ac2, .int .i64 ae2, .bool ag3, .slice aX3 an3 ac3, .int .i64 ae3] 48)).heap.size 71 X0 an0 (ints .u32 m.s.ls)) (h1 : an1 ≤ c1 ∧ OwnR w2 (wr.alloc (.cells #[.int .i64 nu, .int .i64 ep, .int .i64 cp, .bool ag0, .slice aX0 an0 ac0, .int .i64 ae0, .bool ag1, .slice aX1 an1 ac1, .int .i64 ae1, .bool ag2, .slice aX2 an2 ac2, .int .i64 ae2, .bool ag3, .slice aX3 an3 ac3, .int .i64 ae3] 48)).heap.size 71 X1 an1 (ints .u32 m.w.ls)) (h2 : an2 ≤ c2 ∧ OwnR w2 (wr.alloc (.cells #[.int .i64 nu, .int .i64 ep, .int .i64 cp, .bool ag0, .slice aX0 an0 ac0, .int .i64 ae0, .bool ag1, .slice aX1 an1 ac1, .int .i64 ae1, .bool ag2, .slice aX2 an2 ac2, .int .i64 ae2, .bool ag3, .slice aX3 an3 ac3, .int .i64 ae3] 48)).heap.size 71 X2 an2 (ints .u32 m.c.ls)) (h3 : an3 ≤ c3 ∧ OwnR w2 (wr.alloc (.cells #[.int .i64 nu, .int .i64 ep, .int .i64 cp, .bool ag0, .slice aX0 an0 ac0, .int .i64 ae0, .bool ag1, .slice aX1 an1 ac1, .int .i64 ae1, .bool ag2, .slice aX2 an2 ac2, .int .i64 ae2, .bool ag3, .slice aX3 an3 ac3, .int .i64 ae3] 48)).heap.size 71 X3 an3 (ints .u32 m.a.ls)) :
    Blk w2 wr.heap.size 48 #[.int .i64 nu, .int .i64 ep, .int .i64 cp, .bool ag0, .slice aX0 an0 ac0, .int .i64 ae0, .bool ag1, .slice aX1 an1 ac1, .int .i64 ae1, .bool ag2, .slice aX2 an2 ac2, .int .i64 ae2, .bool ag3, .slice aX3 an3 ac3, .int .i64 ae3] ∧ Blk ((((((((((((w2.setCell ⟨wr.heap.size, 3, none⟩ (.bool ag0)).setCell ⟨wr.heap.size, 4, none⟩ (.slice X0 an0 c0)).setCell ⟨wr.heap.size, 5, none⟩ (.int .i64 ae0)).setCell ⟨wr.heap.size, 6, none⟩ (.bool ag1)).setCell ⟨wr.heap.size, 7, none⟩ (.slice X1 an1 c1)).setCell ⟨wr.heap.size, 8, none⟩ (.int .i64 ae1)).setCell ⟨wr.heap.size, 9, none⟩ (.bool ag2)).setCell ⟨wr.heap.size, 10, none⟩ (.slice X2 an2 c2)).setCell ⟨wr.heap.size, 11, none⟩ (.int .i64 ae2)).setCell ⟨wr.heap.size, 12, none⟩ (.bool ag3)).setCell ⟨wr.heap.size, 13, none⟩ (.slice X3 an3 c3)).setCell ⟨wr.heap.size, 14, none⟩ (.int .i64 ae3)) wr.heap.size 48 #[.int .i64 nu, .int .i64 ep, .int .i64 cp, .bool ag0, .slice X0 an0 c0, .int .i64 ae0, .bool ag1, .slice X1 an1 c1, .int .i64 ae1, .bool ag2, .slice X2 an2 c2, .int .i64 ae2, .bool ag3, .slice X3 an3 c3, .int .i64 ae3] ∧ Below w.heap.size w ((((((((((((w2.setCell ⟨wr.heap.size, 3, none⟩ (.bool ag0)).setCell ⟨wr.heap.size, 4, none⟩ (.slice X0 an0 c0)).setCell ⟨wr.heap.size, 5, none⟩ (.int .i64 ae0)).setCell ⟨wr.heap.size, 6, none⟩ (.bool ag1)).setCell ⟨wr.heap.size, 7, none⟩ (.slice X1 an1 c1)).setCell ⟨wr.heap.size, 8, none⟩ (.int .i64 ae1)).setCell ⟨wr.heap.size, 9, none⟩ (.bool ag2)).setCell ⟨wr.heap.size, 10, none⟩ (.slice X2 an2 c2)).setCell ⟨wr.heap.size, 11, none⟩ (.int .i64 ae2)).setCell ⟨wr.heap.size, 12, none⟩ (.bool ag3)).setCell ⟨wr.heap.size, 13, none⟩ (.slice X3 an3 c3)).setCell ⟨wr.heap.size, 14, none⟩ (.int .i64 ae3)) ∧
    ∃ (os : List EO) (o : EO), os.map (·.x) = l ∧ o.x = ⟨nu, ep, cp, m⟩ ∧ row15 o = [.int .i64 nu, .int .i64 ep, .int .i64 cp, .bool ag0, .slice X0 an0 c0, .int .i64 ae0, .bool ag1, .slice X1 an1 c1, .int .i64 ae1, .bool ag2, .slice X2 an2 c2, .int .i64 ae2, .bool ag3, .slice X3 an3 c3, .int .i64 ae3] ∧ ((((((((((((w2.setCell ⟨wr.heap.size, 3, none⟩ (.bool ag0)).setCell ⟨wr.heap.size, 4, none⟩ (.slice X0 an0 c0)).setCell ⟨wr.heap.size, 5, none⟩ (.int .i64 ae0)).setCell ⟨wr.heap.size, 6, none⟩ (.bool ag1)).setCell ⟨wr.heap.size, 7, none⟩ (.slice X1 an1 c1)).setCell ⟨wr.heap.size, 8, none⟩ (.int .i64 ae1)).setCell ⟨wr.heap.size, 9, none⟩ (.bool ag2)).setCell ⟨wr.heap.size, 10, none⟩ (.slice X2 an2 c2)).setCell ⟨wr.heap.size, 11, none⟩ (.int .i64 ae2)).setCell ⟨wr.heap.size, 12, none⟩ (.bool ag3)).setCell ⟨wr.heap.size, 13, none⟩ (.slice X3 an3 c3)).setCell ⟨wr.heap.size, 14, none⟩ (.int .i64 ae3)).ownsRow w.heap.size 48 15 v r (os.flatMap row15) ∧ (∀ o ∈ os, ownE ((((((((((((w2.setCell ⟨wr.heap.size, 3, none⟩ (.bool ag0)).setCell ⟨wr.heap.size, 4, none⟩ (.slice X0 an0 c0)).setCell ⟨wr.heap.size, 5, none⟩ (.int .i64 ae0)).setCell ⟨wr.heap.size, 6, none⟩ (.bool ag1)).setCell ⟨wr.heap.size, 7, none⟩ (.slice X1 an1 c1)).setCell ⟨wr.heap.size, 8, none⟩ (.int .i64 ae1)).setCell ⟨wr.heap.size, 9, none⟩ (.bool ag2)).setCell ⟨wr.heap.size, 10, none⟩ (.slice X2 an2 c2)).setCell ⟨wr.heap.size, 11, none⟩ (.int .i64 ae2)).setCell ⟨wr.heap.size, 12, none⟩ (.bool ag3)).setCell ⟨wr.heap.size, 13, none⟩ (.slice X3 an3 c3)).setCell ⟨wr.heap.size, 14, none⟩ (.int .i64 ae3)) w.heap.size o) ∧ ownE ((((((((((((w2.setCell ⟨wr.heap.size, 3, none⟩ (.bool ag0)).setCell ⟨wr.heap.size, 4, none⟩ (.slice X0 an0 c0)).setCell ⟨wr.heap.size, 5, none⟩ (.int .i64 ae0)).setCell ⟨wr.heap.size, 6, none⟩ (.bool ag1)).setCell ⟨wr.heap.size, 7, none⟩ (.slice X1 an1 c1)).setCell ⟨wr.heap.size, 8, none⟩ (.int .i64 ae1)).setCell ⟨wr.heap.size, 9, none⟩ (.bool ag2)).setCell ⟨wr.heap.size, 10, none⟩ (.slice X2 an2 c2)).setCell ⟨wr.heap.size, 11, none⟩ (.int .i64 ae2)).setCell ⟨wr.heap.size, 12, none⟩ (.bool ag3)).setCell ⟨wr.heap.size, 13, none⟩ (.slice X3 an3 c3)).setCell ⟨wr.heap.size, 14, none⟩ (.int .i64 ae3)) w.heap.size o := by
  have k1 := (Blk.new wr 48 #[.int .i64 nu, .int .i64 ep, .int .i64 cp, .bool ag0, .slice aX0 an0 ac0, .int .i64 ae0, .bool ag1, .slice aX1 an1 ac1, .int .i64 ae1, .bool ag2, .slice aX2 an2 ac2, .int .i64 ae2, .bool ag3, .slice aX3 an3 ac3, .int .i64 ae3]).below hb (by simp)
  have hwr := hB.size
  have hb2 : Below wr.heap.size wr w2 := ((Below.refl wr.heap.size wr).alloc (Nat.le_refl _) _).trans (hb.mono (by simp))
  have hB2 := hB.trans (hb2.mono hwr)
  obtain ⟨os, e, ho, ht⟩ := hA
  have ho2 := own_below ho hb2
  have hne : v.ownBlock ≠ some wr.heap.size := fun e => by have := own_lt ho e; omega
  obtain ⟨⟨ea01, ea02, ea03, _, _⟩, ⟨ea11, ea12, ea13, _, _⟩, ⟨ea21, ea22, ea23, _, _⟩, ⟨ea31, ea32, ea33, _, _⟩⟩ := hrd
  refine ⟨k1, set12 k1 (.bool ag0) (.slice X0 an0 c0) (.int .i64 ae0) (.bool ag1) (.slice X1 an1 c1) (.int .i64 ae1) (.bool ag2) (.slice X2 an2 c2) (.int .i64 ae2) (.bool ag3) (.slice X3 an3 c3) (.int .i64 ae3), Below.setCell (p := ⟨wr.heap.size, 14, none⟩) (Below.setCell (p := ⟨wr.heap.size, 13, none⟩) (Below.setCell (p := ⟨wr.heap.size, 12, none⟩) (Below.setCell (p := ⟨wr.heap.size, 11, none⟩) (Below.setCell (p := ⟨wr.heap.size, 10, none⟩) (Below.setCell (p := ⟨wr.heap.size, 9, none⟩) (Below.setCell (p := ⟨wr.heap.size, 8, none⟩) (Below.setCell (p := ⟨wr.heap.size, 7, none⟩) (Below.setCell (p := ⟨wr.heap.size, 6, none⟩) (Below.setCell (p := ⟨wr.heap.size, 5, none⟩) (Below.setCell (p := ⟨wr.heap.size, 4, none⟩) (Below.setCell (p := ⟨wr.heap.size, 3, none⟩) (hB2) hwr _) hwr _) hwr _) hwr _) hwr _) hwr _) hwr _) hwr _) hwr _) hwr _) hwr _) hwr _, os, ⟨⟨nu, ep, cp, m⟩, X0, c0, X1, c1, X2, c2, X3, c3⟩, e, rfl, by simp [row15, ea01, ea02, ea03, ea11, ea12, ea13, ea21, ea22, ea23, ea31, ea32, ea33], ?_, fun o hoo => (ht o hoo).map (fun h => ?_), ?_⟩
  · exact own_far (p := ⟨wr.heap.size, 14, none⟩) (own_far (p := ⟨wr.heap.size, 13, none⟩) (own_far (p := ⟨wr.heap.size, 12, none⟩) (own_far (p := ⟨wr.heap.size, 11, none⟩) (own_far (p := ⟨wr.heap.size, 10, none⟩) (own_far (p := ⟨wr.heap.size, 9, none⟩) (own_far (p := ⟨wr.heap.size, 8, none⟩) (own_far (p := ⟨wr.heap.size, 7, none⟩) (own_far (p := ⟨wr.heap.size, 6, none⟩) (own_far (p := ⟨wr.heap.size, 5, none⟩) (own_far (p := ⟨wr.heap.size, 4, none⟩) (own_far (p := ⟨wr.heap.size, 3, none⟩) (ho2) hne _) hne _) hne _) hne _) hne _) hne _) hne _) hne _) hne _) hne _) hne _) hne _
  · refine ⟨h.1, fun h0 => ?_⟩
    obtain ⟨g, cur, hA, hg, hh, ht⟩ := h.2 h0
    have hlt := hh.lt
    have hh2 := hh.below hb2 hlt
    exact ⟨g, cur, hA, hg, Blk.far (p := ⟨wr.heap.size, 14, none⟩) (Blk.far (p := ⟨wr.heap.size, 13, none⟩) (Blk.far (p := ⟨wr.heap.size, 12, none⟩) (Blk.far (p := ⟨wr.heap.size, 11, none⟩) (Blk.far (p := ⟨wr.heap.size, 10, none⟩) (Blk.far (p := ⟨wr.heap.size, 9, none⟩) (Blk.far (p := ⟨wr.heap.size, 8, none⟩) (Blk.far (p := ⟨wr.heap.size, 7, none⟩) (Blk.far (p := ⟨wr.heap.size, 6, none⟩) (Blk.far (p := ⟨wr.heap.size, 5, none⟩) (Blk.far (p := ⟨wr.heap.size, 4, none⟩) (Blk.far (p := ⟨wr.heap.size, 3, none⟩) (hh2) (by simp; omega) _) (by simp; omega) _) (by simp; omega) _) (by simp; omega) _) (by simp; omega) _) (by simp; omega) _) (by simp; omega) _) (by simp; omega) _) (by simp; omega) _) (by simp; omega) _) (by simp; omega) _) (by simp; omega) _, ht⟩
  · have hf : ∀ {X : Option Addr} {n : Nat} {xs : List Value}, OwnR w2 (wr.alloc (.cells #[.int .i64 nu, .int .i64 ep, .int .i64 cp, .bool ag0, .slice aX0 an0 ac0, .int .i64 ae0, .bool ag1, .slice aX1 an1 ac1, .int .i64 ae1, .bool ag2, .slice aX2 an2 ac2, .int .i64 ae2, .bool ag3, .slice aX3 an3 ac3, .int .i64 ae3] 48)).heap.size 71 X n xs → OwnR ((((((((((((w2.setCell ⟨wr.heap.size, 3, none⟩ (.bool ag0)).setCell ⟨wr.heap.size, 4, none⟩ (.slice X0 an0 c0)).setCell ⟨wr.heap.size, 5, none⟩ (.int .i64 ae0)).setCell ⟨wr.heap.size, 6, none⟩ (.bool ag1)).setCell ⟨wr.heap.size, 7, none⟩ (.slice X1 an1 c1)).setCell ⟨wr.heap.size, 8, none⟩ (.int .i64 ae1)).setCell ⟨wr.heap.size, 9, none⟩ (.bool ag2)).setCell ⟨wr.heap.size, 10, none⟩ (.slice X2 an2 c2)).setCell ⟨wr.heap.size, 11, none⟩ (.int .i64 ae2)).setCell ⟨wr.heap.size, 12, none⟩ (.bool ag3)).setCell ⟨wr.heap.size, 13, none⟩ (.slice X3 an3 c3)).setCell ⟨wr.heap.size, 14, none⟩ (.int .i64 ae3)) w.heap.size 71 X n xs := fun h => OwnR.base_le (OwnR.far (p := ⟨wr.heap.size, 14, none⟩) (OwnR.far (p := ⟨wr.heap.size, 13, none⟩) (OwnR.far (p := ⟨wr.heap.size, 12, none⟩) (OwnR.far (p := ⟨wr.heap.size, 11, none⟩) (OwnR.far (p := ⟨wr.heap.size, 10, none⟩) (OwnR.far (p := ⟨wr.heap.size, 9, none⟩) (OwnR.far (p := ⟨wr.heap.size, 8, none⟩) (OwnR.far (p := ⟨wr.heap.size, 7, none⟩) (OwnR.far (p := ⟨wr.heap.size, 6, none⟩) (OwnR.far (p := ⟨wr.heap.size, 5, none⟩) (OwnR.far (p := ⟨wr.heap.size, 4, none⟩) (OwnR.far (p := ⟨wr.heap.size, 3, none⟩) (h) (by simp) _) (by simp) _) (by simp) _) (by simp) _) (by simp) _) (by simp) _) (by simp) _) (by simp) _) (by simp) _) (by simp) _) (by simp) _) (by simp) _) (by simp; omega)
    unfold ownE
    simp only [ea03, ea13, ea23, ea33]
    exact ⟨⟨h0.1, hf h0.2⟩, ⟨h1.1, hf h1.2⟩, ⟨h2.1, hf h2.2⟩, h3.1, hf h3.2⟩
end Go.Proofs.YtdmjdpaehnhdoaaDoor
