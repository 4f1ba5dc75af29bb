/- Door: the reference's dyads in parts -/
import Derived.Test.YtdmjdpaehnhdoaaDoorRA
import Derived.Test.YtdmjdpaehnhdoaaDoorLKM
import Derived.Test.YtdmjdpaehnhdoaaDoorDPH
import Derived.Test.YtdmjdpaehnhdoaaDoorMDG
namespace Go.Proofs.YtdmjdpaehnhdoaaDoor
open Go.ChangeShapes Go.WideShapes Go.ChangeAt Go.RowKit
set_option linter.unusedSimpArgs false
set_option linter.unusedVariables false
open Go.Shelf
set_option maxRecDepth 100000
/-- A number's bits at an exponent that is greater by so many. -/
def bitsIn (a : Dy) (j : Nat) : List Nat := t2 (dig 2 (val LB a.ls)) j
theorem bitsIn_val (a : Dy) (j : Nat) : val 2 (bitsIn a j) = val LB a.ls * 2 ^ j := by
  unfold bitsIn
  rw [t2_val, val_dig (by decide)]
theorem bitsIn_lt (a : Dy) (j : Nat) : ∀ x ∈ bitsIn a j, x < 2 := t2_lt (dig_lt (by decide) _) j
theorem bitsIn_len (a : Dy) (la : ∀ x ∈ a.ls, x < LB) (hl : a.ls.length ≤ 40) {j : Nat} (hj : j ≤ 1024) : (bitsIn a j).length ≤ 2304 := by
  have h1 := t2_len (dig 2 (val LB a.ls)) j
  have h2 := val_lt la
  have h3 : (dig 2 (val LB a.ls)).length ≤ 32 * a.ls.length := dig_len_le (by decide) (by rw [← pow32]; exact h2)
  unfold bitsIn
  omega
theorem t2_canon {l : List Nat} (h : Canon l) (j : Nat) : Canon (t2 l j) := by
  unfold t2
  by_cases h0 : l.length = 0
  · rw [if_pos h0]; exact canon_nil
  · rw [if_neg h0]
    rcases h with h | h
    · exact absurd h h0
    · refine .inr ?_
      rw [List.length_append, List.length_replicate, List.getD_eq_getElem?_getD, List.getElem?_append_right (by rw [List.length_replicate]; omega), List.length_replicate, show j + l.length - 1 - j = l.length - 1 by omega, ← List.getD_eq_getElem?_getD]
      exact h
theorem bitsIn_canon (a : Dy) (j : Nat) : Canon (bitsIn a j) := t2_canon (dig_canon (by decide) _) j
/-- Bits with a sign that are answered. -/
def SgP (s : Bool) (b : List Nat) (w : World) (en : Ending) (w' : World) : Prop := ∃ X c, en = .returned (.agg #[.bool s, .slice X b.length c]) ∧ b.length ≤ c ∧ Reads w' w'.heap.size 1 X b.length (ints .u8 b) ∧ Below w.heap.size w w'
theorem reads_ne {w : World} {B n g : Nat} {T : TypeId} {cs : Array Value} {X : Option Addr} {b : List Nat} (h : Reads w B 1 X n (ints .u8 b)) (hk : Blk w g T cs) (hc : ∀ (i : Nat) (z : Int), cs[i]? ≠ some (.int .u8 z)) : n = 0 ∨ ∃ ad, X = some ad ∧ ad.block ≠ g := by
  rcases Nat.eq_zero_or_pos n with h0 | h0
  · exact .inl h0
  · obtain ⟨ad, u, e, _, hu, hl⟩ := h.at_ (k := 0) h0
    refine .inr ⟨ad, e, fun hb => ?_⟩
    obtain ⟨z, rfl⟩ : ∃ z, u = .int .u8 z := by
      obtain ⟨i, hi⟩ := List.getElem?_eq_some_iff.1 hu
      have hm := List.getElem_mem i
      rw [hi] at hm
      unfold ints at hm
      obtain ⟨z, _, hz⟩ := List.mem_map.1 hm
      exact ⟨_, hz.symm⟩
    obtain ⟨bl, off, spot⟩ := ad
    simp only at hb
    subst hb
    cases spot with
    | none =>
      have e2 : (⟨bl, off, none⟩ : Addr).add 0 = ⟨bl, off, none⟩ := by simp [Addr.add]
      rw [e2, hk.cell] at hl
      exact hc _ _ hl
    | some p =>
      unfold Blk at hk
      simp [Addr.add, World.cell?, hk] at hl
theorem sg_cells {i : Nat} {z : Int} : (#[.bool false, .slice none 0 0] : Array Value)[i]? ≠ some (.int .u8 z) := by
  match i with
  | 0 => simp
  | 1 => simp
  | i + 2 => simp
theorem sg_done {s : Bool} {b : List Nat} {w v W : World} {X : Option Addr} {c g : Nat} (hg : w.heap.size ≤ g) (hk : Blk v g 118 #[.bool false, .slice none 0 0]) (hW : W = (v.setCell ⟨g, 0, none⟩ (.bool s)).setCell ⟨g, 1, none⟩ (.slice X b.length c)) (hc : b.length ≤ c) (hr : Reads v v.heap.size 1 X b.length (ints .u8 b)) (hb : Below w.heap.size w v) :
    Blk W g 118 #[.bool s, .slice X b.length c] ∧ Reads W W.heap.size 1 X b.length (ints .u8 b) ∧ Below w.heap.size w W := by
  have hX := reads_ne hr hk (fun i z => sg_cells)
  subst hW
  refine ⟨?_, ?_, (hb.setCell (p := ⟨g, 0, none⟩) hg _).setCell (p := ⟨g, 1, none⟩) hg _⟩
  · have h0 := hk.set_ 0 (.bool s)
    have h1 := h0.set_ 1 (.slice X b.length c)
    simpa using h1
  · rcases hX with h0 | ⟨ad, rfl, hne⟩
    · refine ⟨hr.1, fun h => absurd h0 (by omega)⟩
    · refine ⟨hr.1, fun h => ?_⟩
      obtain ⟨ad2, e, h1, h2⟩ := hr.2 h
      injection e with e
      subst e
      refine ⟨_, rfl, by simp only [World.size_setCell]; exact h1, fun j u hu => ?_⟩
      rw [World.cell?_setCell_other _ _ _ _ (fun h => hne (by have h3 := congrArg Addr.block h; rw [block_of_add] at h3; exact h3.symm)), World.cell?_setCell_other _ _ _ _ (fun h => hne (by have h3 := congrArg Addr.block h; rw [block_of_add] at h3; exact h3.symm))]
      exact h2 j u hu
set_option maxHeartbeats 8000000 in
theorem rin_any (a : Dy) (la : ∀ x ∈ a.ls, x < LB) (hl : a.ls.length ≤ 40) (e k : Nat) (he : a.ex = (e : Int)) (hek : e ≤ k) (hk : k ≤ 1024) (X : Option Addr) (c : Nat) (w : World) (ra : RdD w w.heap.size a.neg X a.ls.length c a.ex a) : Calls Tryd.prog 90 #[.agg #[.bool a.neg, .slice X a.ls.length c, .int .i64 (e : Int)], .int .i64 (k : Int)] w (SgP a.neg (bitsIn a (k - e)) w) := by
  obtain ⟨m, hm⟩ : ∃ m, (dig 2 (val LB a.ls)).length = m := ⟨_, rfl⟩
  obtain ⟨q, hq⟩ : ∃ q, k - e = q := ⟨_, rfl⟩
  obtain ⟨m2, hm2⟩ : ∃ m2, (bitsIn a q).length = m2 := ⟨_, rfl⟩
  have hmx : m ≤ 1280 := by
    have h2 := val_lt la
    have h3 : (dig 2 (val LB a.ls)).length ≤ 32 * a.ls.length := dig_len_le (by decide) (by rw [← pow32]; exact h2)
    omega
  obtain ⟨V, hV⟩ : ∃ V, V = (w.alloc (.cells #[.bool a.neg, .slice X a.ls.length c, .int .i64 (e : Int)] 25)).alloc (.cells #[.bool false, .slice none 0 0] 118) := ⟨_, rfl⟩
  have ka : Blk V w.heap.size 25 #[.bool a.neg, .slice X a.ls.length c, .int .i64 (e : Int)] := by rw [hV]; exact (Blk.new w _ _).alloc _
  have kr : Blk V (w.heap.size + 1) 118 #[.bool false, .slice none 0 0] := by
    have h := Blk.new (w.alloc (.cells #[.bool a.neg, .slice X a.ls.length c, .int .i64 (e : Int)] 25)) 118 #[.bool false, .slice none 0 0]
    rw [World.size_alloc] at h
    rw [hV]; exact h
  have hB : Below w.heap.size w V := by rw [hV]; exact ((Below.refl _ w).alloc (Nat.le_refl _) _).alloc (by simp) _
  have sz : V.heap.size = w.heap.size + 1 + 1 := by rw [hV]; simp
  have hdg : ∀ w', Below V.heap.size V w' → Calls Tryd.prog 114 #[.slice X a.ls.length c] w' (BPost w' m (val LB a.ls)) := fun w' hb => digits_any X a.ls.length c a.ls rfl (by omega) la m hm w' ((ra.2.2.2.2.below (hB.trans (hb.mono hB.size))).more (Nat.le_trans hB.size hb.size))
  have htm : ∀ w' A1 c1, Reads w' w'.heap.size 1 A1 m (ints .u8 (dig 2 (val LB a.ls))) → Calls Tryd.prog 113 #[.slice A1 m c1, .int .i64 (q : Int)] w' fun en w'' => ∃ Ao co, en = .returned (.slice Ao m2 co) ∧ m2 ≤ co ∧ Reads w'' w''.heap.size 1 Ao m2 (ints .u8 (bitsIn a q)) ∧ Below w'.heap.size w' w'' := fun w' A1 c1 hr => times2_any A1 m c1 q (dig 2 (val LB a.ls)) hm (by omega) (by omega) m2 hm2 w' hr
  have SS : ∀ w', Below V.heap.size V w' → (w'.cell? ⟨w.heap.size, 0, none⟩ = some (.bool a.neg) ∧ w'.cell? ⟨w.heap.size, 1, none⟩ = some (.slice X a.ls.length c) ∧ w'.cell? ⟨w.heap.size, 2, none⟩ = some (.int .i64 (e : Int))) := by
    intro w' hw
    have k' := ka.below hw ka.lt
    exact ⟨by rw [k'.cell]; rfl, by rw [k'.cell]; rfl, by rw [k'.cell]; rfl⟩
  have SS1 : ∀ w' u0 u1, Below V.heap.size V w' → (fun w' : World => w'.cell? ⟨w.heap.size, 0, none⟩ = some (.bool a.neg) ∧ w'.cell? ⟨w.heap.size, 1, none⟩ = some (.slice X a.ls.length c) ∧ w'.cell? ⟨w.heap.size, 2, none⟩ = some (.int .i64 (e : Int))) ((w'.setCell ⟨w.heap.size + 1, 0, none⟩ u0).setCell ⟨w.heap.size + 1, 1, none⟩ u1) := by
    intro w' u0 u1 hw
    have k' := ((ka.below hw ka.lt).far (p := ⟨w.heap.size + 1, 0, none⟩) (by show w.heap.size ≠ w.heap.size + 1; omega) u0).far (p := ⟨w.heap.size + 1, 1, none⟩) (by show w.heap.size ≠ w.heap.size + 1; omega) u1
    exact ⟨by rw [k'.cell]; rfl, by rw [k'.cell]; rfl, by rw [k'.cell]; rfl⟩
  have hs3 : IntKind.i64.wrap (q : Int) = (q : Int) := by simp [IntKind.wrap, IntKind.bits, IntKind.signed]; omega
  have hs2 : (k : Int) - (e : Int) = (q : Int) := by omega
  have gk4 := Lib.hid kr
  have gm2 := Lib.hid hm2
  have gB := Lib.hid hB
  clear ka kr hm hm2 la hl he hek hB ra
  rw [hq]
  clear hq
  go_enter Tryd.func90, Tryd.ntmps90
  go_upto_region 1 with (fail)
  rw [← hV]
  clear hV
  refine wp_region_noPanic ?_
  refine wp_region_held_drew (S := fun w' => w'.cell? ⟨w.heap.size, 0, none⟩ = some (.bool a.neg) ∧ w'.cell? ⟨w.heap.size, 1, none⟩ = some (.slice X a.ls.length c) ∧ w'.cell? ⟨w.heap.size, 2, none⟩ = some (.int .i64 (e : Int))) (by kernel_rfl) (SS _ bls) (fun hHeld => ?_)
  refine tkY 0 (h := ?_)
  (try simp only [Act.put, lsA, lsZ, lsS])
  refine tkY 1 (h := ?_)
  (try simp only [Act.put, lsA, lsZ, lsS])
  refine tkY 2 (h := ?_)
  (try simp only [Act.put, lsA, lsZ, lsS])
  refine tkY 3 (h := ?_)
  (try simp only [Act.put, lsA, lsZ, lsS])
  refine tkY 5 (h := ?_)
  (try simp only [Act.put, lsA, lsZ, lsS])
  refine tkY 6 (h := ?_)
  (try simp only [Act.put, lsA, lsZ, lsS])
  refine tkY 7 (h := ?_)
  (try simp only [Act.put, lsA, lsZ, lsS])
  refine tkY 8 (h := ?_)
  (try simp only [Act.put, lsA, lsZ, lsS])
  refine tkR 4 (h := fun K hK => ?_)
  go_simp
  with_reducible refine (hdg _ bls).mono ?_
  rintro en v1 ⟨A1, c1, rfl, hc1, hr1, hv1⟩
  have hv12 : Below V.heap.size V v1 := Below.trans bls (hv1.mono (by first | exact Nat.le_refl _ | (simp only [World.size_alloc, World.size_drew, World.size_setCell]; omega) | omega))
  have sv1 : V.heap.size ≤ v1.heap.size := hv12.size
  have gr1 := Lib.hid hr1
  have gc1 := Lib.hid hc1
  clear hr1 hc1
  refine hK.out _ _ (SS _ bls) (fun hHeld => ?_)
  clear hK K
  (try simp only [Act.put, lsA, lsZ, lsS])
  refine tkR 9 (h := fun K hK => ?_)
  go_simp
  with_reducible refine (htm _ A1 c1 gr1.out).mono ?_
  rintro en v2 ⟨A2, c2, rfl, hc2, hr2, hv2⟩
  have hv22 : Below V.heap.size V v2 := Below.trans bls (hv2.mono (by first | exact Nat.le_refl _ | (simp only [World.size_alloc, World.size_drew, World.size_setCell]; omega) | omega))
  have sv2 : V.heap.size ≤ v2.heap.size := hv22.size
  have k4 := gk4.out.below hv22 gk4.out.lt
  have z0 : v2.cell? ⟨w.heap.size + 1, 0, none⟩ = some (.bool false) := by rw [k4.cell]; rfl
  have z1 : v2.cell? ⟨w.heap.size + 1, 1, none⟩ = some (.slice none 0 0) := by rw [k4.cell]; rfl
  have f0 := k4.frozen 0
  have f1 := k4.frozen 1
  have gk5 := Lib.hid k4
  have gr2 := Lib.hid hr2
  have gc2 := Lib.hid hc2
  clear hr2 hc2 k4 gr1 gc1
  refine hK.out _ _ (SS _ bls) (fun hHeld => ?_)
  clear hK K
  (try simp only [Act.put, lsA, lsZ, lsS])
  refine tkY 10 (h := ?_)
  (try simp only [Act.put, lsA, lsZ, lsS])
  refine tkR 11 (h := fun K hK => ?_)
  go_simp
  refine hK.out _ _ (SS1 _ _ _ bls) (fun hHeld => ?_)
  clear hK K
  (try simp only [Act.put, lsA, lsZ, lsS])
  refine wpAnyH_done (by kernel_rfl) ?_ _
  refine NoPanic.normal ?_
  have hd := sg_done (s := a.neg) (b := bitsIn a q) (w := w) (v := v2) (X := A2) (c := c2) (g := (w.heap.size + 1)) (by omega) gk5.out rfl (by rw [gm2.out]; exact gc2.out) (by rw [gm2.out]; exact gr2.out) (gB.out.trans (hv22.mono gB.out.size))
  rw [gm2.out] at hd
  have gd := Lib.hid hd
  clear hd
  go_wp2
  refine bodyPost_ret (results_cell_row rfl _ _ (w.heap.size + 1) 118 _ (0, 0) _ rfl gd.out.1 Tryd.underlying118 rfl (by kernel_rfl)) rfl ?_
  exact ⟨A2, c2, by rw [gm2.out], by rw [gm2.out]; exact gc2.out, by rw [gm2.out]; exact gd.out.2.1, gd.out.2.2⟩
def plusS (s1 : Bool) (x : Nat) (s2 : Bool) (y : Nat) : Bool × Nat := if s1 = s2 then (s1, x + y) else if y ≤ x then (s1, x - y) else (s2, y - x)
set_option maxHeartbeats 8000000 in
theorem rplus_like (s1 s2 : Bool) (X Y : Option Addr) (n n2 c c2 : Nat) (a b : List Nat) (hn : a.length = n) (hn2 : b.length = n2) (hm : n ≤ 10000) (hm2 : n2 ≤ 10000) (ha : ∀ x ∈ a, x < 2) (hb : ∀ x ∈ b, x < 2) (hs : s1 = s2) (w : World) (r1 : Reads w w.heap.size 1 X n (ints .u8 a)) (r2 : Reads w w.heap.size 1 Y n2 (ints .u8 b)) : Calls Tryd.prog 89 #[.agg #[.bool s1, .slice X n c], .agg #[.bool s2, .slice Y n2 c2]] w (SgP s1 (dig 2 (val 2 a + val 2 b)) w) := by
  obtain ⟨m, hm0⟩ : ∃ m, (dig 2 (val 2 a + val 2 b)).length = m := ⟨_, rfl⟩
  obtain ⟨V, hV⟩ : ∃ V, V = ((w.alloc (.cells #[.bool s1, .slice X n c] 118)).alloc (.cells #[.bool s2, .slice Y n2 c2] 118)).alloc (.cells #[.bool false, .slice none 0 0] 118) := ⟨_, rfl⟩
  have kx : Blk V w.heap.size 118 #[.bool s1, .slice X n c] := by rw [hV]; exact ((Blk.new w _ _).alloc _).alloc _
  have ky : Blk V (w.heap.size + 1) 118 #[.bool s2, .slice Y n2 c2] := by
    have h := (Blk.new (w.alloc (.cells #[.bool s1, .slice X n c] 118)) 118 #[.bool s2, .slice Y n2 c2]).alloc (.cells #[.bool false, .slice none 0 0] 118)
    rw [World.size_alloc] at h
    rw [hV]; exact h
  have kr : Blk V (w.heap.size + 1 + 1) 118 #[.bool false, .slice none 0 0] := by
    have h := Blk.new ((w.alloc (.cells #[.bool s1, .slice X n c] 118)).alloc (.cells #[.bool s2, .slice Y n2 c2] 118)) 118 #[.bool false, .slice none 0 0]
    rw [World.size_alloc, World.size_alloc] at h
    rw [hV]; exact h
  have hB : Below w.heap.size w V := by rw [hV]; exact (((Below.refl _ w).alloc (Nat.le_refl _) _).alloc (by simp) _).alloc (by simp only [World.size_alloc]; omega) _
  have sz : V.heap.size = w.heap.size + 1 + 1 + 1 := by rw [hV]; simp
  have ra : ∀ w', Below V.heap.size V w' → Reads w' w'.heap.size 1 X n (ints .u8 a) := fun w' h => (r1.below (hB.trans (h.mono hB.size))).more (Nat.le_trans hB.size h.size)
  have rb : ∀ w', Below V.heap.size V w' → Reads w' w'.heap.size 1 Y n2 (ints .u8 b) := fun w' h => (r2.below (hB.trans (h.mono hB.size))).more (Nat.le_trans hB.size h.size)
  have hop : ∀ w', Below V.heap.size V w' → Calls Tryd.prog 110 #[.slice X n c, .slice Y n2 c2] w' (BPost w' m (val 2 a + val 2 b)) := fun w' h => plus_any X Y n n2 c c2 a b hn hn2 (by omega) (by omega) ha hb m hm0 w' (ra w' h) (rb w' h)
  have SS : ∀ w', Below V.heap.size V w' → (w'.cell? ⟨w.heap.size, 0, none⟩ = some (.bool s1) ∧ w'.cell? ⟨w.heap.size, 1, none⟩ = some (.slice X n c) ∧ w'.cell? ⟨w.heap.size + 1, 0, none⟩ = some (.bool s2) ∧ w'.cell? ⟨w.heap.size + 1, 1, none⟩ = some (.slice Y n2 c2)) := by
    intro w' hw
    have k1 := kx.below hw kx.lt
    have k2 := ky.below hw ky.lt
    exact ⟨by rw [k1.cell]; rfl, by rw [k1.cell]; rfl, by rw [k2.cell]; rfl, by rw [k2.cell]; rfl⟩
  have SS1 : ∀ w' u0 u1, Below V.heap.size V w' → (fun w' : World => w'.cell? ⟨w.heap.size, 0, none⟩ = some (.bool s1) ∧ w'.cell? ⟨w.heap.size, 1, none⟩ = some (.slice X n c) ∧ w'.cell? ⟨w.heap.size + 1, 0, none⟩ = some (.bool s2) ∧ w'.cell? ⟨w.heap.size + 1, 1, none⟩ = some (.slice Y n2 c2)) ((w'.setCell ⟨(w.heap.size + 1 + 1), 0, none⟩ u0).setCell ⟨(w.heap.size + 1 + 1), 1, none⟩ u1) := by
    intro w' u0 u1 hw
    have k1 := ((kx.below hw kx.lt).far (p := ⟨(w.heap.size + 1 + 1), 0, none⟩) (by show w.heap.size ≠ w.heap.size + 1 + 1; omega) u0).far (p := ⟨(w.heap.size + 1 + 1), 1, none⟩) (by show w.heap.size ≠ w.heap.size + 1 + 1; omega) u1
    have k2 := ((ky.below hw ky.lt).far (p := ⟨(w.heap.size + 1 + 1), 0, none⟩) (by show w.heap.size + 1 ≠ w.heap.size + 1 + 1; omega) u0).far (p := ⟨(w.heap.size + 1 + 1), 1, none⟩) (by show w.heap.size + 1 ≠ w.heap.size + 1 + 1; omega) u1
    exact ⟨by rw [k1.cell]; rfl, by rw [k1.cell]; rfl, by rw [k2.cell]; rfl, by rw [k2.cell]; rfl⟩
  obtain ⟨b0, b1, b2, b3⟩ := SS V (Below.refl _ _)
  have e1 : (s1 == s2) = true := beq_iff_eq.2 hs
  have gk4 := Lib.hid kr
  have gm := Lib.hid hm0
  have gB := Lib.hid hB
  clear kx ky kr hm0 ha hb hB r1 r2 ra rb hn hn2 hs
  go_enter Tryd.func89, Tryd.ntmps89
  go_upto_region 1 with (fail)
  rw [← hV]
  clear hV
  go_upto_region 2 with (fail)
  clear b0 b1 b2 b3
  refine wp_region_noPanic ?_
  refine wp_region_held_drew (S := fun w' => w'.cell? ⟨w.heap.size, 0, none⟩ = some (.bool s1) ∧ w'.cell? ⟨w.heap.size, 1, none⟩ = some (.slice X n c) ∧ w'.cell? ⟨w.heap.size + 1, 0, none⟩ = some (.bool s2) ∧ w'.cell? ⟨w.heap.size + 1, 1, none⟩ = some (.slice Y n2 c2)) (by kernel_rfl) (SS _ bls) (fun hHeld => ?_)
  refine tkY 0 (h := ?_)
  (try simp only [Act.put, lsA, lsZ, lsS])
  refine tkY 1 (h := ?_)
  (try simp only [Act.put, lsA, lsZ, lsS])
  refine tkY 2 (h := ?_)
  (try simp only [Act.put, lsA, lsZ, lsS])
  refine tkY 3 (h := ?_)
  (try simp only [Act.put, lsA, lsZ, lsS])
  refine tkY 4 (h := ?_)
  (try simp only [Act.put, lsA, lsZ, lsS])
  refine tkY 5 (h := ?_)
  (try simp only [Act.put, lsA, lsZ, lsS])
  refine tkR 6 (h := fun K hK => ?_)
  go_simp
  with_reducible refine (hop _ bls).mono ?_
  rintro en v1 ⟨A1, c1, rfl, hc1, hr1, hv1⟩
  have hv12 : Below V.heap.size V v1 := Below.trans bls (hv1.mono (by first | exact Nat.le_refl _ | (simp only [World.size_alloc, World.size_drew, World.size_setCell]; omega) | omega))
  have sv1 : V.heap.size ≤ v1.heap.size := hv12.size
  have k4 := gk4.out.below hv12 gk4.out.lt
  have z0 : v1.cell? ⟨w.heap.size + 1 + 1, 0, none⟩ = some (.bool false) := by rw [k4.cell]; rfl
  have z1 : v1.cell? ⟨w.heap.size + 1 + 1, 1, none⟩ = some (.slice none 0 0) := by rw [k4.cell]; rfl
  have f0 := k4.frozen 0
  have f1 := k4.frozen 1
  have gk5 := Lib.hid k4
  have gr2 := Lib.hid hr1
  have gc2 := Lib.hid hc1
  clear hr1 hc1 k4
  refine hK.out _ _ (SS _ bls) (fun hHeld => ?_)
  clear hK K
  (try simp only [Act.put, lsA, lsZ, lsS])
  refine tkY 7 (h := ?_)
  (try simp only [Act.put, lsA, lsZ, lsS])
  refine tkR 8 (h := fun K hK => ?_)
  go_simp
  refine hK.out _ _ (SS1 _ _ _ bls) (fun hHeld => ?_)
  clear hK K
  (try simp only [Act.put, lsA, lsZ, lsS])
  refine wpAnyH_done (by kernel_rfl) ?_ _
  refine NoPanic.normal ?_
  have hd := sg_done (s := s1) (b := dig 2 (val 2 a + val 2 b)) (w := w) (v := v1) (X := A1) (c := c1) (g := (w.heap.size + 1 + 1)) (by omega) gk5.out rfl (by rw [gm.out]; exact gc2.out) (by rw [gm.out]; exact gr2.out) (gB.out.trans (hv12.mono gB.out.size))
  rw [gm.out] at hd
  have gd := Lib.hid hd
  clear hd
  go_wp2
  refine bodyPost_ret (results_cell_row rfl _ _ (w.heap.size + 1 + 1) 118 _ (0, 0) _ rfl gd.out.1 Tryd.underlying118 rfl (by kernel_rfl)) rfl ?_
  exact ⟨A1, c1, by rw [gm.out], by rw [gm.out]; exact gc2.out, by rw [gm.out]; exact gd.out.2.1, gd.out.2.2⟩
set_option maxHeartbeats 8000000 in
theorem rplus_ge (s1 s2 : Bool) (X Y : Option Addr) (n n2 c c2 : Nat) (a b : List Nat) (hn : a.length = n) (hn2 : b.length = n2) (hm : n ≤ 10000) (hm2 : n2 ≤ 10000) (ha : ∀ x ∈ a, x < 2) (hb : ∀ x ∈ b, x < 2) (hs : s1 ≠ s2) (hle : val 2 b ≤ val 2 a) (hlen : n2 ≤ n) (w : World) (r1 : Reads w w.heap.size 1 X n (ints .u8 a)) (r2 : Reads w w.heap.size 1 Y n2 (ints .u8 b)) : Calls Tryd.prog 89 #[.agg #[.bool s1, .slice X n c], .agg #[.bool s2, .slice Y n2 c2]] w (SgP s1 (dig 2 (val 2 a - val 2 b)) w) := by
  obtain ⟨m, hm0⟩ : ∃ m, (dig 2 (val 2 a - val 2 b)).length = m := ⟨_, rfl⟩
  obtain ⟨V, hV⟩ : ∃ V, V = ((w.alloc (.cells #[.bool s1, .slice X n c] 118)).alloc (.cells #[.bool s2, .slice Y n2 c2] 118)).alloc (.cells #[.bool false, .slice none 0 0] 118) := ⟨_, rfl⟩
  have kx : Blk V w.heap.size 118 #[.bool s1, .slice X n c] := by rw [hV]; exact ((Blk.new w _ _).alloc _).alloc _
  have ky : Blk V (w.heap.size + 1) 118 #[.bool s2, .slice Y n2 c2] := by
    have h := (Blk.new (w.alloc (.cells #[.bool s1, .slice X n c] 118)) 118 #[.bool s2, .slice Y n2 c2]).alloc (.cells #[.bool false, .slice none 0 0] 118)
    rw [World.size_alloc] at h
    rw [hV]; exact h
  have kr : Blk V (w.heap.size + 1 + 1) 118 #[.bool false, .slice none 0 0] := by
    have h := Blk.new ((w.alloc (.cells #[.bool s1, .slice X n c] 118)).alloc (.cells #[.bool s2, .slice Y n2 c2] 118)) 118 #[.bool false, .slice none 0 0]
    rw [World.size_alloc, World.size_alloc] at h
    rw [hV]; exact h
  have hB : Below w.heap.size w V := by rw [hV]; exact (((Below.refl _ w).alloc (Nat.le_refl _) _).alloc (by simp) _).alloc (by simp only [World.size_alloc]; omega) _
  have sz : V.heap.size = w.heap.size + 1 + 1 + 1 := by rw [hV]; simp
  have ra : ∀ w', Below V.heap.size V w' → Reads w' w'.heap.size 1 X n (ints .u8 a) := fun w' h => (r1.below (hB.trans (h.mono hB.size))).more (Nat.le_trans hB.size h.size)
  have rb : ∀ w', Below V.heap.size V w' → Reads w' w'.heap.size 1 Y n2 (ints .u8 b) := fun w' h => (r2.below (hB.trans (h.mono hB.size))).more (Nat.le_trans hB.size h.size)
  have hop : ∀ w', Below V.heap.size V w' → Calls Tryd.prog 112 #[.slice X n c, .slice Y n2 c2] w' (BPost w' m (val 2 a - val 2 b)) := fun w' h => minus_any X Y n n2 c c2 a b hn hn2 (by omega) hlen ha hb hle m hm0 w' (ra w' h) (rb w' h)
  have hor := rorder_any X Y n n2 c c2 V.heap.size V.heap.size a b hn hn2 (by omega) (by omega) ha hb V (ra V (Below.refl _ _)) (rb V (Below.refl _ _))
  have SS : ∀ w', Below V.heap.size V w' → (w'.cell? ⟨w.heap.size, 0, none⟩ = some (.bool s1) ∧ w'.cell? ⟨w.heap.size, 1, none⟩ = some (.slice X n c) ∧ w'.cell? ⟨w.heap.size + 1, 0, none⟩ = some (.bool s2) ∧ w'.cell? ⟨w.heap.size + 1, 1, none⟩ = some (.slice Y n2 c2)) := by
    intro w' hw
    have k1 := kx.below hw kx.lt
    have k2 := ky.below hw ky.lt
    exact ⟨by rw [k1.cell]; rfl, by rw [k1.cell]; rfl, by rw [k2.cell]; rfl, by rw [k2.cell]; rfl⟩
  have SS1 : ∀ w' u0 u1, Below V.heap.size V w' → (fun w' : World => w'.cell? ⟨w.heap.size, 0, none⟩ = some (.bool s1) ∧ w'.cell? ⟨w.heap.size, 1, none⟩ = some (.slice X n c) ∧ w'.cell? ⟨w.heap.size + 1, 0, none⟩ = some (.bool s2) ∧ w'.cell? ⟨w.heap.size + 1, 1, none⟩ = some (.slice Y n2 c2)) ((w'.setCell ⟨(w.heap.size + 1 + 1), 0, none⟩ u0).setCell ⟨(w.heap.size + 1 + 1), 1, none⟩ u1) := by
    intro w' u0 u1 hw
    have k1 := ((kx.below hw kx.lt).far (p := ⟨(w.heap.size + 1 + 1), 0, none⟩) (by show w.heap.size ≠ w.heap.size + 1 + 1; omega) u0).far (p := ⟨(w.heap.size + 1 + 1), 1, none⟩) (by show w.heap.size ≠ w.heap.size + 1 + 1; omega) u1
    have k2 := ((ky.below hw ky.lt).far (p := ⟨(w.heap.size + 1 + 1), 0, none⟩) (by show w.heap.size + 1 ≠ w.heap.size + 1 + 1; omega) u0).far (p := ⟨(w.heap.size + 1 + 1), 1, none⟩) (by show w.heap.size + 1 ≠ w.heap.size + 1 + 1; omega) u1
    exact ⟨by rw [k1.cell]; rfl, by rw [k1.cell]; rfl, by rw [k2.cell]; rfl, by rw [k2.cell]; rfl⟩
  obtain ⟨b0, b1, b2, b3⟩ := SS V (Below.refl _ _)
  have e1 : (s1 == s2) = false := beq_eq_false_iff_ne.2 hs
  obtain ⟨C, hC⟩ : ∃ C, cmpI (val 2 a) (val 2 b) = C := ⟨_, rfl⟩
  rw [hC] at hor
  have e2 : 0 ≤ C := by rw [← hC]; unfold cmpI; rw [if_neg (by omega)]; split <;> decide
  clear hC
  have gk4 := Lib.hid kr
  have gm := Lib.hid hm0
  have gB := Lib.hid hB
  clear kx ky kr hm0 ha hb hB r1 r2 ra rb hn hn2 hs hle hlen
  go_enter Tryd.func89, Tryd.ntmps89
  go_upto_region 1 with (fail)
  rw [← hV]
  clear hV
  go_wp2_with fail
  refine hor.mono ?_
  rintro en w5 ⟨rfl, rfl⟩
  clear hor
  go_upto_region 4 with (fail)
  clear b0 b1 b2 b3
  refine wp_region_noPanic ?_
  refine wp_region_held_drew (S := fun w' => w'.cell? ⟨w.heap.size, 0, none⟩ = some (.bool s1) ∧ w'.cell? ⟨w.heap.size, 1, none⟩ = some (.slice X n c) ∧ w'.cell? ⟨w.heap.size + 1, 0, none⟩ = some (.bool s2) ∧ w'.cell? ⟨w.heap.size + 1, 1, none⟩ = some (.slice Y n2 c2)) (by kernel_rfl) (SS _ bls) (fun hHeld => ?_)
  refine tkY 0 (h := ?_)
  (try simp only [Act.put, lsA, lsZ, lsS])
  refine tkY 1 (h := ?_)
  (try simp only [Act.put, lsA, lsZ, lsS])
  refine tkY 2 (h := ?_)
  (try simp only [Act.put, lsA, lsZ, lsS])
  refine tkY 3 (h := ?_)
  (try simp only [Act.put, lsA, lsZ, lsS])
  refine tkY 4 (h := ?_)
  (try simp only [Act.put, lsA, lsZ, lsS])
  refine tkY 5 (h := ?_)
  (try simp only [Act.put, lsA, lsZ, lsS])
  refine tkR 6 (h := fun K hK => ?_)
  go_simp
  with_reducible refine (hop _ bls).mono ?_
  rintro en v1 ⟨A1, c1, rfl, hc1, hr1, hv1⟩
  have hv12 : Below V.heap.size V v1 := Below.trans bls (hv1.mono (by first | exact Nat.le_refl _ | (simp only [World.size_alloc, World.size_drew, World.size_setCell]; omega) | omega))
  have sv1 : V.heap.size ≤ v1.heap.size := hv12.size
  have k4 := gk4.out.below hv12 gk4.out.lt
  have z0 : v1.cell? ⟨w.heap.size + 1 + 1, 0, none⟩ = some (.bool false) := by rw [k4.cell]; rfl
  have z1 : v1.cell? ⟨w.heap.size + 1 + 1, 1, none⟩ = some (.slice none 0 0) := by rw [k4.cell]; rfl
  have f0 := k4.frozen 0
  have f1 := k4.frozen 1
  have gk5 := Lib.hid k4
  have gr2 := Lib.hid hr1
  have gc2 := Lib.hid hc1
  clear hr1 hc1 k4
  refine hK.out _ _ (SS _ bls) (fun hHeld => ?_)
  clear hK K
  (try simp only [Act.put, lsA, lsZ, lsS])
  refine tkY 7 (h := ?_)
  (try simp only [Act.put, lsA, lsZ, lsS])
  refine tkR 8 (h := fun K hK => ?_)
  go_simp
  refine hK.out _ _ (SS1 _ _ _ bls) (fun hHeld => ?_)
  clear hK K
  (try simp only [Act.put, lsA, lsZ, lsS])
  refine wpAnyH_done (by kernel_rfl) ?_ _
  refine NoPanic.normal ?_
  have hd := sg_done (s := s1) (b := dig 2 (val 2 a - val 2 b)) (w := w) (v := v1) (X := A1) (c := c1) (g := (w.heap.size + 1 + 1)) (by omega) gk5.out rfl (by rw [gm.out]; exact gc2.out) (by rw [gm.out]; exact gr2.out) (gB.out.trans (hv12.mono gB.out.size))
  rw [gm.out] at hd
  have gd := Lib.hid hd
  clear hd
  go_wp2
  refine bodyPost_ret (results_cell_row rfl _ _ (w.heap.size + 1 + 1) 118 _ (0, 0) _ rfl gd.out.1 Tryd.underlying118 rfl (by kernel_rfl)) rfl ?_
  exact ⟨A1, c1, by rw [gm.out], by rw [gm.out]; exact gc2.out, by rw [gm.out]; exact gd.out.2.1, gd.out.2.2⟩
set_option maxHeartbeats 8000000 in
theorem rplus_lt (s1 s2 : Bool) (X Y : Option Addr) (n n2 c c2 : Nat) (a b : List Nat) (hn : a.length = n) (hn2 : b.length = n2) (hm : n ≤ 10000) (hm2 : n2 ≤ 10000) (ha : ∀ x ∈ a, x < 2) (hb : ∀ x ∈ b, x < 2) (hs : s1 ≠ s2) (hle : val 2 a < val 2 b) (hlen : n ≤ n2) (w : World) (r1 : Reads w w.heap.size 1 X n (ints .u8 a)) (r2 : Reads w w.heap.size 1 Y n2 (ints .u8 b)) : Calls Tryd.prog 89 #[.agg #[.bool s1, .slice X n c], .agg #[.bool s2, .slice Y n2 c2]] w (SgP s2 (dig 2 (val 2 b - val 2 a)) w) := by
  obtain ⟨m, hm0⟩ : ∃ m, (dig 2 (val 2 b - val 2 a)).length = m := ⟨_, rfl⟩
  obtain ⟨V, hV⟩ : ∃ V, V = ((w.alloc (.cells #[.bool s1, .slice X n c] 118)).alloc (.cells #[.bool s2, .slice Y n2 c2] 118)).alloc (.cells #[.bool false, .slice none 0 0] 118) := ⟨_, rfl⟩
  have kx : Blk V w.heap.size 118 #[.bool s1, .slice X n c] := by rw [hV]; exact ((Blk.new w _ _).alloc _).alloc _
  have ky : Blk V (w.heap.size + 1) 118 #[.bool s2, .slice Y n2 c2] := by
    have h := (Blk.new (w.alloc (.cells #[.bool s1, .slice X n c] 118)) 118 #[.bool s2, .slice Y n2 c2]).alloc (.cells #[.bool false, .slice none 0 0] 118)
    rw [World.size_alloc] at h
    rw [hV]; exact h
  have kr : Blk V (w.heap.size + 1 + 1) 118 #[.bool false, .slice none 0 0] := by
    have h := Blk.new ((w.alloc (.cells #[.bool s1, .slice X n c] 118)).alloc (.cells #[.bool s2, .slice Y n2 c2] 118)) 118 #[.bool false, .slice none 0 0]
    rw [World.size_alloc, World.size_alloc] at h
    rw [hV]; exact h
  have hB : Below w.heap.size w V := by rw [hV]; exact (((Below.refl _ w).alloc (Nat.le_refl _) _).alloc (by simp) _).alloc (by simp only [World.size_alloc]; omega) _
  have sz : V.heap.size = w.heap.size + 1 + 1 + 1 := by rw [hV]; simp
  have ra : ∀ w', Below V.heap.size V w' → Reads w' w'.heap.size 1 X n (ints .u8 a) := fun w' h => (r1.below (hB.trans (h.mono hB.size))).more (Nat.le_trans hB.size h.size)
  have rb : ∀ w', Below V.heap.size V w' → Reads w' w'.heap.size 1 Y n2 (ints .u8 b) := fun w' h => (r2.below (hB.trans (h.mono hB.size))).more (Nat.le_trans hB.size h.size)
  have hop : ∀ w', Below V.heap.size V w' → Calls Tryd.prog 112 #[.slice Y n2 c2, .slice X n c] w' (BPost w' m (val 2 b - val 2 a)) := fun w' h => minus_any Y X n2 n c2 c b a hn2 hn (by omega) hlen hb ha (Nat.le_of_lt hle) m hm0 w' (rb w' h) (ra w' h)
  have hor := rorder_any X Y n n2 c c2 V.heap.size V.heap.size a b hn hn2 (by omega) (by omega) ha hb V (ra V (Below.refl _ _)) (rb V (Below.refl _ _))
  have SS : ∀ w', Below V.heap.size V w' → (w'.cell? ⟨w.heap.size, 0, none⟩ = some (.bool s1) ∧ w'.cell? ⟨w.heap.size, 1, none⟩ = some (.slice X n c) ∧ w'.cell? ⟨w.heap.size + 1, 0, none⟩ = some (.bool s2) ∧ w'.cell? ⟨w.heap.size + 1, 1, none⟩ = some (.slice Y n2 c2)) := by
    intro w' hw
    have k1 := kx.below hw kx.lt
    have k2 := ky.below hw ky.lt
    exact ⟨by rw [k1.cell]; rfl, by rw [k1.cell]; rfl, by rw [k2.cell]; rfl, by rw [k2.cell]; rfl⟩
  have SS1 : ∀ w' u0 u1, Below V.heap.size V w' → (fun w' : World => w'.cell? ⟨w.heap.size, 0, none⟩ = some (.bool s1) ∧ w'.cell? ⟨w.heap.size, 1, none⟩ = some (.slice X n c) ∧ w'.cell? ⟨w.heap.size + 1, 0, none⟩ = some (.bool s2) ∧ w'.cell? ⟨w.heap.size + 1, 1, none⟩ = some (.slice Y n2 c2)) ((w'.setCell ⟨(w.heap.size + 1 + 1), 0, none⟩ u0).setCell ⟨(w.heap.size + 1 + 1), 1, none⟩ u1) := by
    intro w' u0 u1 hw
    have k1 := ((kx.below hw kx.lt).far (p := ⟨(w.heap.size + 1 + 1), 0, none⟩) (by show w.heap.size ≠ w.heap.size + 1 + 1; omega) u0).far (p := ⟨(w.heap.size + 1 + 1), 1, none⟩) (by show w.heap.size ≠ w.heap.size + 1 + 1; omega) u1
    have k2 := ((ky.below hw ky.lt).far (p := ⟨(w.heap.size + 1 + 1), 0, none⟩) (by show w.heap.size + 1 ≠ w.heap.size + 1 + 1; omega) u0).far (p := ⟨(w.heap.size + 1 + 1), 1, none⟩) (by show w.heap.size + 1 ≠ w.heap.size + 1 + 1; omega) u1
    exact ⟨by rw [k1.cell]; rfl, by rw [k1.cell]; rfl, by rw [k2.cell]; rfl, by rw [k2.cell]; rfl⟩
  obtain ⟨b0, b1, b2, b3⟩ := SS V (Below.refl _ _)
  have e1 : (s1 == s2) = false := beq_eq_false_iff_ne.2 hs
  obtain ⟨C, hC⟩ : ∃ C, cmpI (val 2 a) (val 2 b) = C := ⟨_, rfl⟩
  rw [hC] at hor
  have e2 : C < 0 := by rw [← hC]; unfold cmpI; rw [if_pos hle]; decide
  clear hC
  have gk4 := Lib.hid kr
  have gm := Lib.hid hm0
  have gB := Lib.hid hB
  clear kx ky kr hm0 ha hb hB r1 r2 ra rb hn hn2 hs hle hlen
  go_enter Tryd.func89, Tryd.ntmps89
  go_upto_region 1 with (fail)
  rw [← hV]
  clear hV
  go_wp2_with fail
  refine hor.mono ?_
  rintro en w5 ⟨rfl, rfl⟩
  clear hor
  go_upto_region 5 with (fail)
  clear b0 b1 b2 b3
  refine wp_region_noPanic ?_
  refine wp_region_held_drew (S := fun w' => w'.cell? ⟨w.heap.size, 0, none⟩ = some (.bool s1) ∧ w'.cell? ⟨w.heap.size, 1, none⟩ = some (.slice X n c) ∧ w'.cell? ⟨w.heap.size + 1, 0, none⟩ = some (.bool s2) ∧ w'.cell? ⟨w.heap.size + 1, 1, none⟩ = some (.slice Y n2 c2)) (by kernel_rfl) (SS _ bls) (fun hHeld => ?_)
  refine tkY 0 (h := ?_)
  (try simp only [Act.put, lsA, lsZ, lsS])
  refine tkY 1 (h := ?_)
  (try simp only [Act.put, lsA, lsZ, lsS])
  refine tkY 2 (h := ?_)
  (try simp only [Act.put, lsA, lsZ, lsS])
  refine tkY 3 (h := ?_)
  (try simp only [Act.put, lsA, lsZ, lsS])
  refine tkY 4 (h := ?_)
  (try simp only [Act.put, lsA, lsZ, lsS])
  refine tkY 5 (h := ?_)
  (try simp only [Act.put, lsA, lsZ, lsS])
  refine tkR 6 (h := fun K hK => ?_)
  go_simp
  with_reducible refine (hop _ bls).mono ?_
  rintro en v1 ⟨A1, c1, rfl, hc1, hr1, hv1⟩
  have hv12 : Below V.heap.size V v1 := Below.trans bls (hv1.mono (by first | exact Nat.le_refl _ | (simp only [World.size_alloc, World.size_drew, World.size_setCell]; omega) | omega))
  have sv1 : V.heap.size ≤ v1.heap.size := hv12.size
  have k4 := gk4.out.below hv12 gk4.out.lt
  have z0 : v1.cell? ⟨w.heap.size + 1 + 1, 0, none⟩ = some (.bool false) := by rw [k4.cell]; rfl
  have z1 : v1.cell? ⟨w.heap.size + 1 + 1, 1, none⟩ = some (.slice none 0 0) := by rw [k4.cell]; rfl
  have f0 := k4.frozen 0
  have f1 := k4.frozen 1
  have gk5 := Lib.hid k4
  have gr2 := Lib.hid hr1
  have gc2 := Lib.hid hc1
  clear hr1 hc1 k4
  refine hK.out _ _ (SS _ bls) (fun hHeld => ?_)
  clear hK K
  (try simp only [Act.put, lsA, lsZ, lsS])
  refine tkY 7 (h := ?_)
  (try simp only [Act.put, lsA, lsZ, lsS])
  refine tkR 8 (h := fun K hK => ?_)
  go_simp
  refine hK.out _ _ (SS1 _ _ _ bls) (fun hHeld => ?_)
  clear hK K
  (try simp only [Act.put, lsA, lsZ, lsS])
  refine wpAnyH_done (by kernel_rfl) ?_ _
  refine NoPanic.normal ?_
  have hd := sg_done (s := s2) (b := dig 2 (val 2 b - val 2 a)) (w := w) (v := v1) (X := A1) (c := c1) (g := (w.heap.size + 1 + 1)) (by omega) gk5.out rfl (by rw [gm.out]; exact gc2.out) (by rw [gm.out]; exact gr2.out) (gB.out.trans (hv12.mono gB.out.size))
  rw [gm.out] at hd
  have gd := Lib.hid hd
  clear hd
  go_wp2
  refine bodyPost_ret (results_cell_row rfl _ _ (w.heap.size + 1 + 1) 118 _ (0, 0) _ rfl gd.out.1 Tryd.underlying118 rfl (by kernel_rfl)) rfl ?_
  exact ⟨A1, c1, by rw [gm.out], by rw [gm.out]; exact gc2.out, by rw [gm.out]; exact gd.out.2.1, gd.out.2.2⟩
theorem len_of_val {a b : List Nat} (ha : ∀ x ∈ a, x < 2) (hb : ∀ x ∈ b, x < 2) (ca : Canon a) (cb : Canon b) (h : val 2 b ≤ val 2 a) : b.length ≤ a.length := by
  rcases Nat.lt_or_ge a.length b.length with h1 | h1
  · have := canon_len_lt (by decide : 2 ≤ 2) ha cb h1
    omega
  · exact h1
theorem rplus_any (s1 s2 : Bool) (X Y : Option Addr) (n n2 c c2 : Nat) (a b : List Nat) (hn : a.length = n) (hn2 : b.length = n2) (hm : n ≤ 10000) (hm2 : n2 ≤ 10000) (ha : ∀ x ∈ a, x < 2) (hb : ∀ x ∈ b, x < 2) (ca : Canon a) (cb : Canon b) (w : World) (r1 : Reads w w.heap.size 1 X n (ints .u8 a)) (r2 : Reads w w.heap.size 1 Y n2 (ints .u8 b)) : Calls Tryd.prog 89 #[.agg #[.bool s1, .slice X n c], .agg #[.bool s2, .slice Y n2 c2]] w (SgP (plusS s1 (val 2 a) s2 (val 2 b)).1 (dig 2 (plusS s1 (val 2 a) s2 (val 2 b)).2) w) := by
  unfold plusS
  by_cases hs : s1 = s2
  · rw [if_pos hs]; exact rplus_like s1 s2 X Y n n2 c c2 a b hn hn2 hm hm2 ha hb hs w r1 r2
  · rw [if_neg hs]
    by_cases hle : val 2 b ≤ val 2 a
    · rw [if_pos hle]; exact rplus_ge s1 s2 X Y n n2 c c2 a b hn hn2 hm hm2 ha hb hs hle (by rw [← hn, ← hn2]; exact len_of_val ha hb ca cb hle) w r1 r2
    · rw [if_neg hle]; exact rplus_lt s1 s2 X Y n n2 c c2 a b hn hn2 hm hm2 ha hb hs (by omega) (by rw [← hn, ← hn2]; exact len_of_val hb ha cb ca (by omega)) w r1 r2
end Go.Proofs.YtdmjdpaehnhdoaaDoor
