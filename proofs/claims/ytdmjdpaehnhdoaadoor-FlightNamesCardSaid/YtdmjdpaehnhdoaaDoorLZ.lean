/- Flight: what Land and Lose answer -/
import Derived.Test.YtdmjdpaehnhdoaaDoorLX
import Derived.Test.YtdmjdpaehnhdoaaDoorLES
import Derived.Test.YtdmjdpaehnhdoaaDoorLQU
namespace Go.Proofs.YtdmjdpaehnhdoaaDoor
open Go.ChangeShapes Go.WideShapes Go.ChangeAt Go.RowKit
set_option linter.unusedSimpArgs false
set_option linter.unusedVariables false
/-- The load that is none. -/
def zE : En := ⟨0, 0, 0, ⟨⟨false, [], 0⟩, ⟨false, [], 0⟩, ⟨false, [], 0⟩, ⟨false, [], 0⟩⟩⟩
def zO : EO := ⟨zE, none, 0, none, 0, none, 0, none, 0⟩
theorem zO_has (g : Nat) : ¬ hasB zO g := by
  rintro (h | h | h | h) <;> exact absurd h.1 (by decide)
theorem zO_own (w : World) (b : Nat) : ownE w b zO := ⟨⟨Nat.le_refl _, OwnR.none_⟩, ⟨Nat.le_refl _, OwnR.none_⟩, ⟨Nat.le_refl _, OwnR.none_⟩, ⟨Nat.le_refl _, OwnR.none_⟩⟩
def aggE (o : EO) : Value := .agg #[.int .i64 o.x.nu, .int .i64 o.x.ep, .int .i64 o.x.cp, .bool o.x.give.s.neg, .slice o.X0 o.x.give.s.ls.length o.c0, .int .i64 o.x.give.s.ex, .bool o.x.give.w.neg, .slice o.X1 o.x.give.w.ls.length o.c1, .int .i64 o.x.give.w.ex, .bool o.x.give.c.neg, .slice o.X2 o.x.give.c.ls.length o.c2, .int .i64 o.x.give.c.ex, .bool o.x.give.a.neg, .slice o.X3 o.x.give.a.ls.length o.c3, .int .i64 o.x.give.a.ex]
/-- A load is stored into a box. -/
def b15 (w : World) (g : Nat) (u0 u1 u2 u3 u4 u5 u6 u7 u8 u9 u10 u11 u12 u13 u14 : Value) : World := ((((((((((((((w.setCell ⟨g, 0, none⟩ u0).setCell ⟨g, 1, none⟩ u1).setCell ⟨g, 2, none⟩ u2).setCell ⟨g, 3, none⟩ u3).setCell ⟨g, 4, none⟩ u4).setCell ⟨g, 5, none⟩ u5).setCell ⟨g, 6, none⟩ u6).setCell ⟨g, 7, none⟩ u7).setCell ⟨g, 8, none⟩ u8).setCell ⟨g, 9, none⟩ u9).setCell ⟨g, 10, none⟩ u10).setCell ⟨g, 11, none⟩ u11).setCell ⟨g, 12, none⟩ u12).setCell ⟨g, 13, none⟩ u13).setCell ⟨g, 14, none⟩ u14
theorem b15_z {w : World} {g : Nat} {z0 z1 z2 z3 z4 z5 z6 z7 z8 z9 z10 z11 z12 z13 z14 : Value} (h : Blk w g 48 #[z0, z1, z2, z3, z4, z5, z6, z7, z8, z9, z10, z11, z12, z13, z14]) (u0 u1 u2 u3 u4 u5 u6 u7 u8 u9 u10 u11 u12 u13 u14 : Value) : Blk (b15 w g u0 u1 u2 u3 u4 u5 u6 u7 u8 u9 u10 u11 u12 u13 u14) g 48 #[u0, u1, u2, u3, u4, u5, u6, u7, u8, u9, u10, u11, u12, u13, u14] := by
  have h1 : Blk _ g 48 #[u0, z1, z2, z3, z4, z5, z6, z7, z8, z9, z10, z11, z12, z13, z14] := (show _ from by simpa using h.set_ 0 u0)
  have h2 : Blk _ g 48 #[u0, u1, z2, z3, z4, z5, z6, z7, z8, z9, z10, z11, z12, z13, z14] := (show _ from by simpa using h1.set_ 1 u1)
  have h3 : Blk _ g 48 #[u0, u1, u2, z3, z4, z5, z6, z7, z8, z9, z10, z11, z12, z13, z14] := (show _ from by simpa using h2.set_ 2 u2)
  have h4 : Blk _ g 48 #[u0, u1, u2, u3, z4, z5, z6, z7, z8, z9, z10, z11, z12, z13, z14] := (show _ from by simpa using h3.set_ 3 u3)
  have h5 : Blk _ g 48 #[u0, u1, u2, u3, u4, z5, z6, z7, z8, z9, z10, z11, z12, z13, z14] := (show _ from by simpa using h4.set_ 4 u4)
  have h6 : Blk _ g 48 #[u0, u1, u2, u3, u4, u5, z6, z7, z8, z9, z10, z11, z12, z13, z14] := (show _ from by simpa using h5.set_ 5 u5)
  have h7 : Blk _ g 48 #[u0, u1, u2, u3, u4, u5, u6, z7, z8, z9, z10, z11, z12, z13, z14] := (show _ from by simpa using h6.set_ 6 u6)
  have h8 : Blk _ g 48 #[u0, u1, u2, u3, u4, u5, u6, u7, z8, z9, z10, z11, z12, z13, z14] := (show _ from by simpa using h7.set_ 7 u7)
  have h9 : Blk _ g 48 #[u0, u1, u2, u3, u4, u5, u6, u7, u8, z9, z10, z11, z12, z13, z14] := (show _ from by simpa using h8.set_ 8 u8)
  have h10 : Blk _ g 48 #[u0, u1, u2, u3, u4, u5, u6, u7, u8, u9, z10, z11, z12, z13, z14] := (show _ from by simpa using h9.set_ 9 u9)
  have h11 : Blk _ g 48 #[u0, u1, u2, u3, u4, u5, u6, u7, u8, u9, u10, z11, z12, z13, z14] := (show _ from by simpa using h10.set_ 10 u10)
  have h12 : Blk _ g 48 #[u0, u1, u2, u3, u4, u5, u6, u7, u8, u9, u10, u11, z12, z13, z14] := (show _ from by simpa using h11.set_ 11 u11)
  have h13 : Blk _ g 48 #[u0, u1, u2, u3, u4, u5, u6, u7, u8, u9, u10, u11, u12, z13, z14] := (show _ from by simpa using h12.set_ 12 u12)
  have h14 : Blk _ g 48 #[u0, u1, u2, u3, u4, u5, u6, u7, u8, u9, u10, u11, u12, u13, z14] := (show _ from by simpa using h13.set_ 13 u13)
  have h15 : Blk _ g 48 #[u0, u1, u2, u3, u4, u5, u6, u7, u8, u9, u10, u11, u12, u13, u14] := (show _ from by simpa using h14.set_ 14 u14)
  exact h15
theorem b15_blk {w : World} {g : Nat} {cs : Array Value} (h : Blk w g 48 cs) (hs : cs.size = 15) (u0 u1 u2 u3 u4 u5 u6 u7 u8 u9 u10 u11 u12 u13 u14 : Value) : Blk (b15 w g u0 u1 u2 u3 u4 u5 u6 u7 u8 u9 u10 u11 u12 u13 u14) g 48 #[u0, u1, u2, u3, u4, u5, u6, u7, u8, u9, u10, u11, u12, u13, u14] := by
  obtain ⟨L⟩ := cs
  simp only [List.size_toArray] at hs
  match L, hs with
  | [a0, a1, a2, a3, a4, a5, a6, a7, a8, a9, a10, a11, a12, a13, a14], _ => exact b15_z h u0 u1 u2 u3 u4 u5 u6 u7 u8 u9 u10 u11 u12 u13 u14
theorem b15_other (w : World) (g : Nat) (u0 u1 u2 u3 u4 u5 u6 u7 u8 u9 u10 u11 u12 u13 u14 : Value) : ∀ k, k ≠ g → (b15 w g u0 u1 u2 u3 u4 u5 u6 u7 u8 u9 u10 u11 u12 u13 u14).heap[k]? = w.heap[k]? := fun k hk => by
  unfold b15
  iterate 15 rw [Below.heap_setCell _ _ _ k hk]
theorem b15_size (w : World) (g : Nat) (u0 u1 u2 u3 u4 u5 u6 u7 u8 u9 u10 u11 u12 u13 u14 : Value) : (b15 w g u0 u1 u2 u3 u4 u5 u6 u7 u8 u9 u10 u11 u12 u13 u14).heap.size = w.heap.size := by simp [b15]
theorem b15_below {B : Nat} {w W : World} (h : Below B w W) {g : Nat} (hg : B ≤ g) (u0 u1 u2 u3 u4 u5 u6 u7 u8 u9 u10 u11 u12 u13 u14 : Value) : Below B w (b15 W g u0 u1 u2 u3 u4 u5 u6 u7 u8 u9 u10 u11 u12 u13 u14) :=
  ((((((((((((((h.setCell (p := ⟨g, 0, none⟩) hg u0).setCell (p := ⟨g, 1, none⟩) hg u1).setCell (p := ⟨g, 2, none⟩) hg u2).setCell (p := ⟨g, 3, none⟩) hg u3).setCell (p := ⟨g, 4, none⟩) hg u4).setCell (p := ⟨g, 5, none⟩) hg u5).setCell (p := ⟨g, 6, none⟩) hg u6).setCell (p := ⟨g, 7, none⟩) hg u7).setCell (p := ⟨g, 8, none⟩) hg u8).setCell (p := ⟨g, 9, none⟩) hg u9).setCell (p := ⟨g, 10, none⟩) hg u10).setCell (p := ⟨g, 11, none⟩) hg u11).setCell (p := ⟨g, 12, none⟩) hg u12).setCell (p := ⟨g, 13, none⟩) hg u13).setCell (p := ⟨g, 14, none⟩) hg u14
theorem own_other {w w' : World} {base size n b : Nat} {e : TypeId} {v : Value} {xs : List Value} (h : w.ownsRow base e size v n xs) (hb : b < base) (ho : ∀ k, k ≠ b → w'.heap[k]? = w.heap[k]?) : w'.ownsRow base e size v n xs :=
  ⟨h.1, h.2.imp id fun ⟨g, c, cur, e1, h1, h2, r⟩ => ⟨g, c, cur, e1, h1, (ho g (by omega)).trans h2, r⟩⟩
theorem ownE.other {w w' : World} {base b : Nat} {o : EO} (h : ownE w base o) (hb : b < base) (ho : ∀ k, k ≠ b → w'.heap[k]? = w.heap[k]?) : ownE w' base o := h.map (fun h => ⟨h.1, fun hp => by
  obtain ⟨g, cur, hA, hg, hB, ht⟩ := h.2 hp
  exact ⟨g, cur, hA, hg, (ho g (by omega)).trans hB, ht⟩⟩)
/-- A list and a load are answered, in new memory, the load's limbs apart from the list's. -/
def PairC (B : Nat) (v : Value) (l : List En) (x : En) (ox : EO) (w' : World) : Prop := ∃ (A : Option Addr) (n c : Nat) (os : List EO), v = .slice A n c ∧ os.map (·.x) = l ∧ ox.x = x ∧ w'.ownsRow B 48 15 (.slice A n c) n (os.flatMap row15) ∧ (∀ o ∈ os, ownE w' B o) ∧ ownE w' B ox ∧ (∀ o ∈ os, ∀ g, hasB o g → hasB ox g → False)
theorem PairC.other {w w' : World} {B b : Nat} {v : Value} {l : List En} {x : En} {ox : EO} (h : PairC B v l x ox w) (hb : b < B) (ho : ∀ k, k ≠ b → w'.heap[k]? = w.heap[k]?) : PairC B v l x ox w' := by
  obtain ⟨A, n, c, os, h1, h2, h3, h4, h5, h6, h7⟩ := h
  exact ⟨A, n, c, os, h1, h2, h3, own_other h4 hb ho, fun o hO => (h5 o hO).other hb ho, h6.other hb ho, h7⟩
theorem PairC.base_le {w : World} {B B' : Nat} {v : Value} {l : List En} {x : En} {ox : EO} (h : PairC B v l x ox w) (hb : B' ≤ B) : PairC B' v l x ox w := by
  obtain ⟨A, n, c, os, h1, h2, h3, h4, h5, h6, h7⟩ := h
  exact ⟨A, n, c, os, h1, h2, h3, own_base_le h4 hb, fun o hO => (h5 o hO).map (fun h => h.base_le hb), h6.map (fun h => h.base_le hb), h7⟩
theorem PairC.below {w w' : World} {B : Nat} {v : Value} {l : List En} {x : En} {ox : EO} (h : PairC B v l x ox w) (hb : Below w.heap.size w w') : PairC B v l x ox w' := by
  obtain ⟨A, n, c, os, h1, h2, h3, h4, h5, h6, h7⟩ := h
  exact ⟨A, n, c, os, h1, h2, h3, own_below h4 hb, fun o hO => (h5 o hO).map (fun h => h.below hb), h6.map (fun h => h.below hb), h7⟩
theorem pairC_zero {w : World} {B n c : Nat} {A : Option Addr} {l : List En} (h : AccE w B (.slice A n c) n l) : PairC B (.slice A n c) l zE zO w := by
  obtain ⟨os, h1, h2, h3⟩ := h
  exact ⟨A, n, c, os, rfl, h1, rfl, h2, h3, zO_own _ _, fun o _ g _ h => zO_has g h⟩
theorem pairC_nil (w : World) (B : Nat) : PairC B (.slice none 0 0) [] zE zO w := pairC_zero (accE_nil w B)
/-- One load is taken out of a row of copies. -/
theorem sep_apart {os : List EO} (h : SepE os.length os) {k : Nat} {ox : EO} (hk : os[k]? = some ox) : ∀ o ∈ os.take k ++ os.drop (k + 1), ∀ g, hasB o g → hasB ox g → False := by
  intro o ho g h1 h2
  have hkl := (List.getElem?_eq_some_iff.1 hk).1
  rcases List.mem_append.1 ho with hm | hm
  · obtain ⟨i, hi, rfl⟩ := List.getElem_of_mem hm
    rw [List.length_take] at hi
    rw [List.getElem_take] at h1
    have := h i k _ ox (by omega) hkl (List.getElem?_eq_getElem (by omega)) hk g g h1 h2
    omega
  · obtain ⟨i, hi, rfl⟩ := List.getElem_of_mem hm
    rw [List.length_drop] at hi
    rw [List.getElem_drop] at h1
    have := h k (k + 1 + i) ox _ (by omega) (by omega) hk (List.getElem?_eq_getElem (by omega)) g g h2 h1
    omega
def PairE (w : World) (v : Value) (l : List En) (x : En) (ox : EO) (w' : World) : Prop := PairC w.heap.size v l x ox w' ∧ Below w.heap.size w w'
/-- What Land (q = true) and Lose (q = false) answer. -/
def CmeF (q : Bool) (l : List En) (N : Int) (l' : List En) (x : En) (E : Int) : Prop := (ChkF l E ∧ E ≠ 0 ∧ l' = [] ∧ x = zE) ∨ (ChkF l 0 ∧ ¬ (0 ≤ N ∧ N ≤ 1048575) ∧ E = 2 ∧ l' = [] ∧ x = zE) ∨ (ChkF l 0 ∧ (0 ≤ N ∧ N ≤ 1048575) ∧ E = 0 ∧
  ((∃ (k : Nat) (y : En), l[k]? = some y ∧ y.nu = N ∧ (((q = true ∨ y.cp = 1) ∧ l' = l.take k ++ l.drop (k + 1) ∧ x = y) ∨ (¬ (q = true ∨ y.cp = 1) ∧ l' = l.set k { y with cp := y.cp - 1 } ∧ x = zE))) ∨ ((∀ (j : Nat) (y : En), l[j]? = some y → y.nu ≠ N) ∧ l' = l ∧ x = zE)))
theorem cme_one {q : Bool} {l l1 l2 : List En} {N E1 E2 : Int} {x1 x2 : En} (h : CmeF q l N l1 x1 E1) (h' : CmeF q l N l2 x2 E2) : l1 = l2 ∧ x1 = x2 ∧ E1 = E2 := by
  rcases h with ⟨a, b, rfl, rfl⟩ | ⟨a, b, rfl, rfl, rfl⟩ | ⟨a, b, rfl, c⟩ <;> rcases h' with ⟨a', b', rfl, rfl⟩ | ⟨a', b', rfl, rfl, rfl⟩ | ⟨a', b', rfl, c'⟩
  · exact ⟨rfl, rfl, chk_one a a'⟩
  · exact absurd (chk_one a a') b
  · exact absurd (chk_one a a') b
  · exact absurd (chk_one a' a) b'
  · exact ⟨rfl, rfl, rfl⟩
  · exact absurd b' b
  · exact absurd (chk_one a' a) b'
  · exact absurd b b'
  · rcases c with ⟨k, x, hx, hn, c⟩ | ⟨hno, rfl, rfl⟩ <;> rcases c' with ⟨k', x', hx', hn', c'⟩ | ⟨hno', rfl, rfl⟩
    · obtain rfl := num_one a.good hx hx' (by rw [hn, hn'])
      rw [hx] at hx'
      injection hx' with hx'
      subst hx'
      rcases c with ⟨p, rfl, rfl⟩ | ⟨p, rfl, rfl⟩ <;> rcases c' with ⟨p', rfl, rfl⟩ | ⟨p', rfl, rfl⟩
      · exact ⟨rfl, rfl, rfl⟩
      · exact absurd p p'
      · exact absurd p' p
      · exact ⟨rfl, rfl, rfl⟩
    · exact absurd hn (hno' _ _ hx)
    · exact absurd hn' (hno _ _ hx')
    · exact ⟨rfl, rfl, rfl⟩
end Go.Proofs.YtdmjdpaehnhdoaaDoor
