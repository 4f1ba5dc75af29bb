/- Flight: the program's copies of entries | Flight: the program's copies, the limbs of each apart -/
import Derived.Test.YtdmjdpaehnhdoaaDoorLD
namespace Go.Proofs.YtdmjdpaehnhdoaaDoor
open Go.ChangeShapes Go.WideShapes Go.ChangeAt Go.RowKit
set_option linter.unusedSimpArgs false
set_option linter.unusedVariables false
def ClE (w : World) (n : Nat) (l : List En) (en : Ending) (w' : World) : Prop := ∃ (Ao : Option Addr) (co : Nat) (os : List EO), en = .returned (.slice Ao n co) ∧ n ≤ co ∧ os.map (·.x) = l ∧ w'.ownsRow w.heap.size 48 15 (.slice Ao n co) n (os.flatMap row15) ∧ (∀ o ∈ os, rdE w w.heap.size o) ∧ Below w.heap.size w w'
set_option maxHeartbeats 2000000 in
theorem eclone_any (A : Option Addr) (n c : Nat) (l : List En) (hm : n ≤ 10000) (w : World) (h1 : Ens w w.heap.size A n l) :
    Calls Tryd.prog 39 #[.slice A n c] w (ClE w n l) := by
  rcases A with _ | ad
  · have h0 : n = 0 := by
      rcases Nat.eq_zero_or_pos n with h | h
      · exact h
      · obtain ⟨ad, h1, _⟩ := h1.2 h
        cases h1
    subst h0
    have ha : l = [] := List.eq_nil_of_length_eq_zero (ens_len h1)
    subst ha
    have q22 : ∀ (w : World), (binOp .eql 22 (.slice none 0 c) (.slice none 0 0)).run Tryd.prog w = .ok (.bool true) w := fun w => Lib.run_eql_slice_nil w _ _ none 0 c 0 0 Tryd.underlying22
    clear h1
    go_enter Tryd.func39, Tryd.ntmps39
    go_wp2
    go_ret
    exact ⟨none, 0, [], rfl, Nat.le_refl _, rfl, World.ownsRow_nil _ _ _ _, by simp, Below.refl _ _⟩
  · obtain ⟨i0, hi0, hz0, hz1, hz2⟩ := info_parts infoE
    obtain ⟨os, e, hr, hx⟩ := ens_rows h1
    have ge := Lib.hid e
    have gx := Lib.hid hx
    clear e hx h1
    have q22 : ∀ (w : World), (binOp .eql 22 (.slice (some ad) n c) (.slice none 0 0)).run Tryd.prog w = .ok (.bool false) w := fun w => Lib.run_eql_slice_nil w _ _ (some ad) n c 0 0 Tryd.underlying22
    have hown0 : (w.alloc (.cells #[] 48)).ownsRow w.heap.size 48 15 (.slice (some ⟨w.heap.size, 0, none⟩) 0 0) 0 [] := ⟨by simp, .inr ⟨w.heap.size, 0, #[], rfl, Nat.le_refl _, heap_alloc_new w _, Nat.le_refl _, Nat.zero_le _, by simp, by simp⟩⟩
    go_enter Tryd.func39, Tryd.ntmps39
    go_wp2_with (at_builtin; refine wpList_append_any _ rfl (.tmp 5) (.tmp 6) 22 rfl w.heap.size 48 i0 _ 15 184 Tryd.underlying22 hi0 hz0 hz1 hz2 rfl (by omega) (.slice (some ⟨w.heap.size, 0, none⟩) 0 0) 0 [] rfl hown0 w.heap.size (some ad) n c _ rfl (hr.alloc (Nat.le_refl _) _) (flat15_one _) (by unfold maxLen; omega) (by omega) (by rw [World.size_alloc]; omega) ?_; intro v4 w4 ho4 hg4 _; rw [Nat.zero_add, List.nil_append] at ho4; obtain ⟨Ao, co, rfl, hco, ro⟩ := own_slice ho4)
    go_ret
    refine ⟨Ao, co, os, rfl, hco, ge.out, ho4, gx.out, Below.grown ((Below.refl w.heap.size w).alloc (Nat.le_refl _) _) hg4 (by rw [World.size_alloc]; omega) ?_⟩
    intro q hq
    simp [Value.ownBlock] at hq
    omega
/-- Entries under way: the first k have copies of their own. -/
def TwI (w wr : World) (k : Nat) (os : List EO) : Prop := ∀ i o, os[i]? = some o → if i < k then ownE wr w.heap.size o else rdE w w.heap.size o
theorem row_step {w2 : World} {g j k n q : Nat} {cur : Array Value} {os : List EO} {o o' : EO} {v : Value} (h : Blk w2 g 48 cur ∧ cur.toList.take (n * 15) = os.flatMap row15 ∧ os[k]? = some o) (hv : (row15 o).set j v = row15 o') (hj : j < 15) (hq : q = k * 15 + j) :
    Blk (w2.setCell ⟨g, q, none⟩ v) g 48 (cur.setIfInBounds q v) ∧ (cur.setIfInBounds q v).toList.take (n * 15) = (os.set k o').flatMap row15 ∧ (os.set k o')[k]? = some o' := by
  subst hq
  have hlt := (List.getElem?_eq_some_iff.1 h.2.2).1
  exact ⟨h.1.set_ _ v, by rw [Array.toList_setIfInBounds, List.take_set, h.2.1, flat15_set os k j o o' v h.2.2 hv hj], by rw [List.getElem?_set_self hlt]⟩
set_option maxRecDepth 100000 in
set_option maxHeartbeats 8000000 in
theorem etwin_any (A : Option Addr) (n c : Nat) (l : List En) (hm : n ≤ 10000) (hs1 : ∀ x ∈ l, smM x.give) (w : World) (h1 : Ens w w.heap.size A n l) :
    Calls Tryd.prog 14 #[.slice A n c] w fun en w' => ∃ Ao co, en = .returned (.slice Ao n co) ∧ TwE w n l Ao co w' := by
  have gln := Lib.hid (ens_len h1)
  have gs1 := Lib.hid hs1
  have hcl := eclone_any A n c l hm w h1
  clear hs1 h1
  go_enter Tryd.func14, Tryd.ntmps14
  go_wp2_with fail
  refine hcl.mono ?_
  rintro en w1 ⟨Ao, co, os, rfl, hco, hos, hown, hrd, hB0⟩
  have gos := Lib.hid hos
  have gown := Lib.hid hown
  have gI : Hid (TwI w w1 0 os) := Lib.hid (fun i o h => by rw [if_neg (by omega)]; exact hrd o (List.mem_of_getElem? h))
  clear hcl hos hown hrd
  go_wp2
  go_loopw [9] (fun t wr => ∃ (k : Nat) (os : List EO), k ≤ n ∧ t = .int .i64 (k : Int) ∧ Hid (os.map (·.x) = l) ∧ Hid (wr.ownsRow w.heap.size 48 15 (.slice Ao n co) n (os.flatMap row15)) ∧ Hid (TwI w wr k os) ∧ Below w.heap.size w wr) (fun t _ => n - (intOf t).toNat)
  case atStart => exact ⟨0, os, Nat.zero_le _, rfl, gos, gown, gI, hB0⟩
  case round =>
    clear hB0 gos gown gI os
    obtain ⟨k, os, hk, rfl, gos, gown, gI, hB⟩ := hrel
    by_cases hlt : k < n
    · have hol : os.length = n := by rw [← gln.out, ← gos.out, List.length_map]
      obtain ⟨o, hok⟩ : ∃ o, os[k]? = some o := ⟨_, List.getElem?_eq_getElem (by omega)⟩
      have hrd : rdE w w.heap.size o := by have := gI.out k o hok; rw [if_neg (by omega)] at this; exact this
      obtain ⟨g, cap, cur, hv, hbg, hh, hnc, hcm, hcs, htk⟩ : ∃ g cap cur, (Value.slice Ao n co) = .slice (some ⟨g, 0, none⟩) n cap ∧ w.heap.size ≤ g ∧ Blk wr g 48 cur ∧ n ≤ cap ∧ cap ≤ maxLen ∧ cur.size = cap * 15 ∧ cur.toList.take (n * 15) = os.flatMap row15 := by
        rcases gown.out.2 with ⟨_, h⟩ | ⟨g, cap, cur, h1, h2, h3, h4, h5, h6, h7⟩
        · omega
        · exact ⟨g, cap, cur, h1, h2, h3, h4, h5, h6, h7⟩
      injection hv with hA _ hcc
      subst hA hcc
      have hcell : ∀ j v, (row15 o)[j]? = some v → j < 15 → cur[k * 15 + j]? = some v := by
        intro j v hv hj
        have h5 := flat15_at os k j o v hok hv hj
        rw [← htk, List.getElem?_take] at h5
        split at h5
        · simpa using h5
        · cases h5
      obtain ⟨⟨nu, ep, cp, ⟨⟨ag0, l0, ae0⟩, ⟨ag1, l1, ae1⟩, ⟨ag2, l2, ae2⟩, ⟨ag3, l3, ae3⟩⟩⟩, oX0, oc0, oX1, oc1, oX2, oc2, oX3, oc3⟩ := o
      obtain ⟨an0, hn0⟩ : ∃ n, l0.length = n := ⟨_, rfl⟩
      obtain ⟨an1, hn1⟩ : ∃ n, l1.length = n := ⟨_, rfl⟩
      obtain ⟨an2, hn2⟩ : ∃ n, l2.length = n := ⟨_, rfl⟩
      obtain ⟨an3, hn3⟩ : ∃ n, l3.length = n := ⟨_, rfl⟩
      have hrm : RdM w w.heap.size ag0 oX0 an0 oc0 ae0 ag1 oX1 an1 oc1 ae1 ag2 oX2 an2 oc2 ae2 ag3 oX3 an3 oc3 ae3 ⟨⟨ag0, l0, ae0⟩, ⟨ag1, l1, ae1⟩, ⟨ag2, l2, ae2⟩, ⟨ag3, l3, ae3⟩⟩ := ⟨⟨rfl, rfl, hn0, by rw [← hn0]; exact hrd.1.1, by rw [← hn0]; exact hrd.1.2⟩, ⟨rfl, rfl, hn1, by rw [← hn1]; exact hrd.2.1.1, by rw [← hn1]; exact hrd.2.1.2⟩, ⟨rfl, rfl, hn2, by rw [← hn2]; exact hrd.2.2.1.1, by rw [← hn2]; exact hrd.2.2.1.2⟩, ⟨rfl, rfl, hn3, by rw [← hn3]; exact hrd.2.2.2.1, by rw [← hn3]; exact hrd.2.2.2.2⟩⟩
      have hsm : smM ⟨⟨ag0, l0, ae0⟩, ⟨ag1, l1, ae1⟩, ⟨ag2, l2, ae2⟩, ⟨ag3, l3, ae3⟩⟩ := gs1.out ⟨nu, ep, cp, _⟩ (by rw [← gos.out]; exact List.mem_map.2 ⟨_, List.mem_of_getElem? hok, rfl⟩)
      have hc := mtwin_any ag0 oX0 an0 oc0 ae0 ag1 oX1 an1 oc1 ae1 ag2 oX2 an2 oc2 ae2 ag3 oX3 an3 oc3 ae3 _ hsm wr (hrm.below hB hB.size)
      have v0 : cur[k * 15 + 0]? = some (Value.int .i64 nu) := hcell 0 _ rfl (by omega)
      have v1 : cur[k * 15 + 1]? = some (.int .i64 ep) := hcell 1 _ rfl (by omega)
      have v2 : cur[k * 15 + 2]? = some (.int .i64 cp) := hcell 2 _ rfl (by omega)
      have v3 : cur[k * 15 + 3]? = some (.bool ag0) := hcell 3 _ rfl (by omega)
      have v4 : cur[k * 15 + 4]? = some (.slice oX0 an0 oc0) := by have := hcell 4 _ rfl (by omega); simp only at this; rw [hn0] at this; exact this
      have v5 : cur[k * 15 + 5]? = some (.int .i64 ae0) := hcell 5 _ rfl (by omega)
      have v6 : cur[k * 15 + 6]? = some (.bool ag1) := hcell 6 _ rfl (by omega)
      have v7 : cur[k * 15 + 7]? = some (.slice oX1 an1 oc1) := by have := hcell 7 _ rfl (by omega); simp only at this; rw [hn1] at this; exact this
      have v8 : cur[k * 15 + 8]? = some (.int .i64 ae1) := hcell 8 _ rfl (by omega)
      have v9 : cur[k * 15 + 9]? = some (.bool ag2) := hcell 9 _ rfl (by omega)
      have v10 : cur[k * 15 + 10]? = some (.slice oX2 an2 oc2) := by have := hcell 10 _ rfl (by omega); simp only at this; rw [hn2] at this; exact this
      have v11 : cur[k * 15 + 11]? = some (.int .i64 ae2) := hcell 11 _ rfl (by omega)
      have v12 : cur[k * 15 + 12]? = some (.bool ag3) := hcell 12 _ rfl (by omega)
      have v13 : cur[k * 15 + 13]? = some (.slice oX3 an3 oc3) := by have := hcell 13 _ rfl (by omega); simp only at this; rw [hn3] at this; exact this
      have v14 : cur[k * 15 + 14]? = some (.int .i64 ae3) := hcell 14 _ rfl (by omega)
      have hp : (⟨g, 0, none⟩ : Addr).add (k * 15) = ⟨g, k * 15, none⟩ := by unfold Addr.add; split <;> simp_all
      have x3 : wr.cell? ⟨g, k * 15 + 3, none⟩ = some (.bool ag0) := (hh.cell _).trans v3
      have x4 : wr.cell? ⟨g, k * 15 + 4, none⟩ = some (.slice oX0 an0 oc0) := (hh.cell _).trans v4
      have xx4 : wr.cell? ⟨g, k * 15 + 3 + 1, none⟩ = some (.slice oX0 an0 oc0) := x4
      have x5 : wr.cell? ⟨g, k * 15 + 5, none⟩ = some (.int .i64 ae0) := (hh.cell _).trans v5
      have xx5 : wr.cell? ⟨g, k * 15 + 3 + 2, none⟩ = some (.int .i64 ae0) := x5
      have x6 : wr.cell? ⟨g, k * 15 + 6, none⟩ = some (.bool ag1) := (hh.cell _).trans v6
      have xx6 : wr.cell? ⟨g, k * 15 + 3 + 3, none⟩ = some (.bool ag1) := x6
      have x7 : wr.cell? ⟨g, k * 15 + 7, none⟩ = some (.slice oX1 an1 oc1) := (hh.cell _).trans v7
      have xx7 : wr.cell? ⟨g, k * 15 + 3 + 4, none⟩ = some (.slice oX1 an1 oc1) := x7
      have x8 : wr.cell? ⟨g, k * 15 + 8, none⟩ = some (.int .i64 ae1) := (hh.cell _).trans v8
      have xx8 : wr.cell? ⟨g, k * 15 + 3 + 5, none⟩ = some (.int .i64 ae1) := x8
      have x9 : wr.cell? ⟨g, k * 15 + 9, none⟩ = some (.bool ag2) := (hh.cell _).trans v9
      have xx9 : wr.cell? ⟨g, k * 15 + 3 + 6, none⟩ = some (.bool ag2) := x9
      have x10 : wr.cell? ⟨g, k * 15 + 10, none⟩ = some (.slice oX2 an2 oc2) := (hh.cell _).trans v10
      have xx10 : wr.cell? ⟨g, k * 15 + 3 + 7, none⟩ = some (.slice oX2 an2 oc2) := x10
      have x11 : wr.cell? ⟨g, k * 15 + 11, none⟩ = some (.int .i64 ae2) := (hh.cell _).trans v11
      have xx11 : wr.cell? ⟨g, k * 15 + 3 + 8, none⟩ = some (.int .i64 ae2) := x11
      have x12 : wr.cell? ⟨g, k * 15 + 12, none⟩ = some (.bool ag3) := (hh.cell _).trans v12
      have xx12 : wr.cell? ⟨g, k * 15 + 3 + 9, none⟩ = some (.bool ag3) := x12
      have x13 : wr.cell? ⟨g, k * 15 + 13, none⟩ = some (.slice oX3 an3 oc3) := (hh.cell _).trans v13
      have xx13 : wr.cell? ⟨g, k * 15 + 3 + 10, none⟩ = some (.slice oX3 an3 oc3) := x13
      have x14 : wr.cell? ⟨g, k * 15 + 14, none⟩ = some (.int .i64 ae3) := (hh.cell _).trans v14
      have xx14 : wr.cell? ⟨g, k * 15 + 3 + 11, none⟩ = some (.int .i64 ae3) := x14
      have i1 : (0 : Int) ≤ k := by omega
      have i2 : (k : Int) < n := by omega
      have i3 : (k : Int) < co := by omega
      have gho := Lib.hid (And.intro hok (And.intro hol htk))
      have ghn := Lib.hid (And.intro hn0 (And.intro hn1 (And.intro hn2 hn3)))
      have grm := Lib.hid hrm
      clear hok hol htk hn0 hn1 hn2 hn3 hrd hsm hcell hrm
      go_wp2_with fail
      refine hc.mono ?_
      rintro en w2 ⟨X0, c0, X1, c1, X2, c2, X3, c3, rfl, b0, b1, b2, b3, hb2⟩
      have hh2 := hh.below hb2 hh.lt
      have y3 : w2.cell? ⟨g, k * 15 + 3, none⟩ = some (.bool ag0) := (hh2.cell _).trans v3
      have yf3 := hh2.frozen (k * 15 + 3)
      have y4 : w2.cell? ⟨g, k * 15 + 4, none⟩ = some (.slice oX0 an0 oc0) := (hh2.cell _).trans v4
      have yf4 := hh2.frozen (k * 15 + 4)
      have yy4 : w2.cell? ⟨g, k * 15 + 3 + 1, none⟩ = some (.slice oX0 an0 oc0) := y4
      have yg4 : w2.frozen? ⟨g, k * 15 + 3 + 1, none⟩ = false := yf4
      have y5 : w2.cell? ⟨g, k * 15 + 5, none⟩ = some (.int .i64 ae0) := (hh2.cell _).trans v5
      have yf5 := hh2.frozen (k * 15 + 5)
      have yy5 : w2.cell? ⟨g, k * 15 + 3 + 2, none⟩ = some (.int .i64 ae0) := y5
      have yg5 : w2.frozen? ⟨g, k * 15 + 3 + 2, none⟩ = false := yf5
      have y6 : w2.cell? ⟨g, k * 15 + 6, none⟩ = some (.bool ag1) := (hh2.cell _).trans v6
      have yf6 := hh2.frozen (k * 15 + 6)
      have yy6 : w2.cell? ⟨g, k * 15 + 3 + 3, none⟩ = some (.bool ag1) := y6
      have yg6 : w2.frozen? ⟨g, k * 15 + 3 + 3, none⟩ = false := yf6
      have y7 : w2.cell? ⟨g, k * 15 + 7, none⟩ = some (.slice oX1 an1 oc1) := (hh2.cell _).trans v7
      have yf7 := hh2.frozen (k * 15 + 7)
      have yy7 : w2.cell? ⟨g, k * 15 + 3 + 4, none⟩ = some (.slice oX1 an1 oc1) := y7
      have yg7 : w2.frozen? ⟨g, k * 15 + 3 + 4, none⟩ = false := yf7
      have y8 : w2.cell? ⟨g, k * 15 + 8, none⟩ = some (.int .i64 ae1) := (hh2.cell _).trans v8
      have yf8 := hh2.frozen (k * 15 + 8)
      have yy8 : w2.cell? ⟨g, k * 15 + 3 + 5, none⟩ = some (.int .i64 ae1) := y8
      have yg8 : w2.frozen? ⟨g, k * 15 + 3 + 5, none⟩ = false := yf8
      have y9 : w2.cell? ⟨g, k * 15 + 9, none⟩ = some (.bool ag2) := (hh2.cell _).trans v9
      have yf9 := hh2.frozen (k * 15 + 9)
      have yy9 : w2.cell? ⟨g, k * 15 + 3 + 6, none⟩ = some (.bool ag2) := y9
      have yg9 : w2.frozen? ⟨g, k * 15 + 3 + 6, none⟩ = false := yf9
      have y10 : w2.cell? ⟨g, k * 15 + 10, none⟩ = some (.slice oX2 an2 oc2) := (hh2.cell _).trans v10
      have yf10 := hh2.frozen (k * 15 + 10)
      have yy10 : w2.cell? ⟨g, k * 15 + 3 + 7, none⟩ = some (.slice oX2 an2 oc2) := y10
      have yg10 : w2.frozen? ⟨g, k * 15 + 3 + 7, none⟩ = false := yf10
      have y11 : w2.cell? ⟨g, k * 15 + 11, none⟩ = some (.int .i64 ae2) := (hh2.cell _).trans v11
      have yf11 := hh2.frozen (k * 15 + 11)
      have yy11 : w2.cell? ⟨g, k * 15 + 3 + 8, none⟩ = some (.int .i64 ae2) := y11
      have yg11 : w2.frozen? ⟨g, k * 15 + 3 + 8, none⟩ = false := yf11
      have y12 : w2.cell? ⟨g, k * 15 + 12, none⟩ = some (.bool ag3) := (hh2.cell _).trans v12
      have yf12 := hh2.frozen (k * 15 + 12)
      have yy12 : w2.cell? ⟨g, k * 15 + 3 + 9, none⟩ = some (.bool ag3) := y12
      have yg12 : w2.frozen? ⟨g, k * 15 + 3 + 9, none⟩ = false := yf12
      have y13 : w2.cell? ⟨g, k * 15 + 13, none⟩ = some (.slice oX3 an3 oc3) := (hh2.cell _).trans v13
      have yf13 := hh2.frozen (k * 15 + 13)
      have yy13 : w2.cell? ⟨g, k * 15 + 3 + 10, none⟩ = some (.slice oX3 an3 oc3) := y13
      have yg13 : w2.frozen? ⟨g, k * 15 + 3 + 10, none⟩ = false := yf13
      have y14 : w2.cell? ⟨g, k * 15 + 14, none⟩ = some (.int .i64 ae3) := (hh2.cell _).trans v14
      have yf14 := hh2.frozen (k * 15 + 14)
      have yy14 : w2.cell? ⟨g, k * 15 + 3 + 11, none⟩ = some (.int .i64 ae3) := y14
      have yg14 : w2.frozen? ⟨g, k * 15 + 3 + 11, none⟩ = false := yf14
      have hgl := hh2.lt
      clear hc x3 x4 x5 x6 x7 x8 x9 x10 x11 x12 x13 x14 xx4 xx5 xx6 xx7 xx8 xx9 xx10 xx11 xx12 xx13 xx14 v0 v1 v2 v3 v4 v5 v6 v7 v8 v9 v10 v11 v12 v13 v14
      have gb := Lib.hid (And.intro b0 (And.intro b1 (And.intro b2 b3)))
      clear b0 b1 b2 b3
      obtain ⟨W3, hW3⟩ : ∃ W3, W3 = (((((((((((w2.setCell ⟨g, k * 15 + 3, none⟩ (.bool ag0)).setCell ⟨g, k * 15 + 3 + 1, none⟩ (.slice X0 an0 c0)).setCell ⟨g, k * 15 + 3 + 2, none⟩ (.int .i64 ae0)).setCell ⟨g, k * 15 + 3 + 3, none⟩ (.bool ag1)).setCell ⟨g, k * 15 + 3 + 4, none⟩ (.slice X1 an1 c1)).setCell ⟨g, k * 15 + 3 + 5, none⟩ (.int .i64 ae1)).setCell ⟨g, k * 15 + 3 + 6, none⟩ (.bool ag2)).setCell ⟨g, k * 15 + 3 + 7, none⟩ (.slice X2 an2 c2)).setCell ⟨g, k * 15 + 3 + 8, none⟩ (.int .i64 ae2)).setCell ⟨g, k * 15 + 3 + 9, none⟩ (.bool ag3)).setCell ⟨g, k * 15 + 3 + 10, none⟩ (.slice X3 an3 c3)).setCell ⟨g, k * 15 + 3 + 11, none⟩ (.int .i64 ae3) := ⟨_, rfl⟩
      obtain ⟨hok, hol, htk⟩ := gho.out
      obtain ⟨hn0, hn1, hn2, hn3⟩ := ghn.out
      obtain ⟨b0, b1, b2, b3⟩ := gb.out
      have t0 : Blk w2 g 48 cur ∧ cur.toList.take (n * 15) = os.flatMap row15 ∧ os[k]? = some ⟨⟨nu, ep, cp, ⟨⟨ag0, l0, ae0⟩, ⟨ag1, l1, ae1⟩, ⟨ag2, l2, ae2⟩, ⟨ag3, l3, ae3⟩⟩⟩, oX0, oc0, oX1, oc1, oX2, oc2, oX3, oc3⟩ := ⟨hh2, htk, hok⟩
      have t1 := row_step (o' := ⟨⟨nu, ep, cp, ⟨⟨ag0, l0, ae0⟩, ⟨ag1, l1, ae1⟩, ⟨ag2, l2, ae2⟩, ⟨ag3, l3, ae3⟩⟩⟩, oX0, oc0, oX1, oc1, oX2, oc2, oX3, oc3⟩) (v := (.bool ag0)) t0 (by simp [row15, hn0, hn1, hn2, hn3]) (show 3 < 15 by omega) (show k * 15 + 3 = k * 15 + 3 by omega)
      have t2 := row_step (o' := ⟨⟨nu, ep, cp, ⟨⟨ag0, l0, ae0⟩, ⟨ag1, l1, ae1⟩, ⟨ag2, l2, ae2⟩, ⟨ag3, l3, ae3⟩⟩⟩, X0, c0, oX1, oc1, oX2, oc2, oX3, oc3⟩) (v := (.slice X0 an0 c0)) t1 (by simp [row15, hn0, hn1, hn2, hn3]) (show 4 < 15 by omega) (show k * 15 + 3 + 1 = k * 15 + 4 by omega)
      have t3 := row_step (o' := ⟨⟨nu, ep, cp, ⟨⟨ag0, l0, ae0⟩, ⟨ag1, l1, ae1⟩, ⟨ag2, l2, ae2⟩, ⟨ag3, l3, ae3⟩⟩⟩, X0, c0, oX1, oc1, oX2, oc2, oX3, oc3⟩) (v := (.int .i64 ae0)) t2 (by simp [row15, hn0, hn1, hn2, hn3]) (show 5 < 15 by omega) (show k * 15 + 3 + 2 = k * 15 + 5 by omega)
      have t4 := row_step (o' := ⟨⟨nu, ep, cp, ⟨⟨ag0, l0, ae0⟩, ⟨ag1, l1, ae1⟩, ⟨ag2, l2, ae2⟩, ⟨ag3, l3, ae3⟩⟩⟩, X0, c0, oX1, oc1, oX2, oc2, oX3, oc3⟩) (v := (.bool ag1)) t3 (by simp [row15, hn0, hn1, hn2, hn3]) (show 6 < 15 by omega) (show k * 15 + 3 + 3 = k * 15 + 6 by omega)
      have t5 := row_step (o' := ⟨⟨nu, ep, cp, ⟨⟨ag0, l0, ae0⟩, ⟨ag1, l1, ae1⟩, ⟨ag2, l2, ae2⟩, ⟨ag3, l3, ae3⟩⟩⟩, X0, c0, X1, c1, oX2, oc2, oX3, oc3⟩) (v := (.slice X1 an1 c1)) t4 (by simp [row15, hn0, hn1, hn2, hn3]) (show 7 < 15 by omega) (show k * 15 + 3 + 4 = k * 15 + 7 by omega)
      have t6 := row_step (o' := ⟨⟨nu, ep, cp, ⟨⟨ag0, l0, ae0⟩, ⟨ag1, l1, ae1⟩, ⟨ag2, l2, ae2⟩, ⟨ag3, l3, ae3⟩⟩⟩, X0, c0, X1, c1, oX2, oc2, oX3, oc3⟩) (v := (.int .i64 ae1)) t5 (by simp [row15, hn0, hn1, hn2, hn3]) (show 8 < 15 by omega) (show k * 15 + 3 + 5 = k * 15 + 8 by omega)
      have t7 := row_step (o' := ⟨⟨nu, ep, cp, ⟨⟨ag0, l0, ae0⟩, ⟨ag1, l1, ae1⟩, ⟨ag2, l2, ae2⟩, ⟨ag3, l3, ae3⟩⟩⟩, X0, c0, X1, c1, oX2, oc2, oX3, oc3⟩) (v := (.bool ag2)) t6 (by simp [row15, hn0, hn1, hn2, hn3]) (show 9 < 15 by omega) (show k * 15 + 3 + 6 = k * 15 + 9 by omega)
      have t8 := row_step (o' := ⟨⟨nu, ep, cp, ⟨⟨ag0, l0, ae0⟩, ⟨ag1, l1, ae1⟩, ⟨ag2, l2, ae2⟩, ⟨ag3, l3, ae3⟩⟩⟩, X0, c0, X1, c1, X2, c2, oX3, oc3⟩) (v := (.slice X2 an2 c2)) t7 (by simp [row15, hn0, hn1, hn2, hn3]) (show 10 < 15 by omega) (show k * 15 + 3 + 7 = k * 15 + 10 by omega)
      have t9 := row_step (o' := ⟨⟨nu, ep, cp, ⟨⟨ag0, l0, ae0⟩, ⟨ag1, l1, ae1⟩, ⟨ag2, l2, ae2⟩, ⟨ag3, l3, ae3⟩⟩⟩, X0, c0, X1, c1, X2, c2, oX3, oc3⟩) (v := (.int .i64 ae2)) t8 (by simp [row15, hn0, hn1, hn2, hn3]) (show 11 < 15 by omega) (show k * 15 + 3 + 8 = k * 15 + 11 by omega)
      have t10 := row_step (o' := ⟨⟨nu, ep, cp, ⟨⟨ag0, l0, ae0⟩, ⟨ag1, l1, ae1⟩, ⟨ag2, l2, ae2⟩, ⟨ag3, l3, ae3⟩⟩⟩, X0, c0, X1, c1, X2, c2, oX3, oc3⟩) (v := (.bool ag3)) t9 (by simp [row15, hn0, hn1, hn2, hn3]) (show 12 < 15 by omega) (show k * 15 + 3 + 9 = k * 15 + 12 by omega)
      have t11 := row_step (o' := ⟨⟨nu, ep, cp, ⟨⟨ag0, l0, ae0⟩, ⟨ag1, l1, ae1⟩, ⟨ag2, l2, ae2⟩, ⟨ag3, l3, ae3⟩⟩⟩, X0, c0, X1, c1, X2, c2, X3, c3⟩) (v := (.slice X3 an3 c3)) t10 (by simp [row15, hn0, hn1, hn2, hn3]) (show 13 < 15 by omega) (show k * 15 + 3 + 10 = k * 15 + 13 by omega)
      have t12 := row_step (o' := ⟨⟨nu, ep, cp, ⟨⟨ag0, l0, ae0⟩, ⟨ag1, l1, ae1⟩, ⟨ag2, l2, ae2⟩, ⟨ag3, l3, ae3⟩⟩⟩, X0, c0, X1, c1, X2, c2, X3, c3⟩) (v := (.int .i64 ae3)) t11 (by simp [row15, hn0, hn1, hn2, hn3]) (show 14 < 15 by omega) (show k * 15 + 3 + 11 = k * 15 + 14 by omega)
      rw [← hW3] at t12
      simp only [List.set_set] at t12
      obtain ⟨hB3, ht3, hk3⟩ := t12
      have hB4 : Below w.heap.size w W3 := by rw [hW3]; exact Below.setCell (p := ⟨g, k * 15 + 3 + 11, none⟩) (Below.setCell (p := ⟨g, k * 15 + 3 + 10, none⟩) (Below.setCell (p := ⟨g, k * 15 + 3 + 9, none⟩) (Below.setCell (p := ⟨g, k * 15 + 3 + 8, none⟩) (Below.setCell (p := ⟨g, k * 15 + 3 + 7, none⟩) (Below.setCell (p := ⟨g, k * 15 + 3 + 6, none⟩) (Below.setCell (p := ⟨g, k * 15 + 3 + 5, none⟩) (Below.setCell (p := ⟨g, k * 15 + 3 + 4, none⟩) (Below.setCell (p := ⟨g, k * 15 + 3 + 3, none⟩) (Below.setCell (p := ⟨g, k * 15 + 3 + 2, none⟩) (Below.setCell (p := ⟨g, k * 15 + 3 + 1, none⟩) (Below.setCell (p := ⟨g, k * 15 + 3, none⟩) (hB.trans (hb2.mono hB.size)) hbg _) hbg _) hbg _) hbg _) hbg _) hbg _) hbg _) hbg _) hbg _) hbg _) hbg _) hbg _
      have gown3 : Hid (W3.ownsRow w.heap.size 48 15 (.slice (some ⟨g, 0, none⟩) n co) n ((os.set k ⟨⟨nu, ep, cp, ⟨⟨ag0, l0, ae0⟩, ⟨ag1, l1, ae1⟩, ⟨ag2, l2, ae2⟩, ⟨ag3, l3, ae3⟩⟩⟩, X0, c0, X1, c1, X2, c2, X3, c3⟩).flatMap row15)) := Lib.hid ⟨by rw [flat15_len, List.length_set, hol], .inr ⟨g, co, _, rfl, hbg, hB3, hnc, hcm, by simp only [Array.size_setIfInBounds]; exact hcs, ht3⟩⟩
      have gos3 : Hid ((os.set k ⟨⟨nu, ep, cp, ⟨⟨ag0, l0, ae0⟩, ⟨ag1, l1, ae1⟩, ⟨ag2, l2, ae2⟩, ⟨ag3, l3, ae3⟩⟩⟩, X0, c0, X1, c1, X2, c2, X3, c3⟩).map (·.x) = l) := Lib.hid (by
        rw [List.map_set, ← gos.out]
        apply List.ext_getElem?
        intro i
        by_cases e : i = k
        · subst e; rw [List.getElem?_set_self (by rw [List.length_map]; omega), List.getElem?_map, hok]; rfl
        · rw [List.getElem?_set_ne (Ne.symm e)])
      have gI3 : Hid (TwI w W3 (k + 1) (os.set k ⟨⟨nu, ep, cp, ⟨⟨ag0, l0, ae0⟩, ⟨ag1, l1, ae1⟩, ⟨ag2, l2, ae2⟩, ⟨ag3, l3, ae3⟩⟩⟩, X0, c0, X1, c1, X2, c2, X3, c3⟩)) := Lib.hid (fun i o h => by
        by_cases e : i = k
        · subst e
          rw [hk3] at h
          injection h with h
          subst h
          rw [if_pos (by omega)]
          have hof : ∀ {X : Option Addr} {n : Nat} {xs : List Value}, OwnR w2 wr.heap.size 71 X n xs → OwnR W3 w.heap.size 71 X n xs := fun h => by rw [hW3]; exact OwnR.base_le (OwnR.far (p := ⟨g, i * 15 + 3 + 11, none⟩) (OwnR.far (p := ⟨g, i * 15 + 3 + 10, none⟩) (OwnR.far (p := ⟨g, i * 15 + 3 + 9, none⟩) (OwnR.far (p := ⟨g, i * 15 + 3 + 8, none⟩) (OwnR.far (p := ⟨g, i * 15 + 3 + 7, none⟩) (OwnR.far (p := ⟨g, i * 15 + 3 + 6, none⟩) (OwnR.far (p := ⟨g, i * 15 + 3 + 5, none⟩) (OwnR.far (p := ⟨g, i * 15 + 3 + 4, none⟩) (OwnR.far (p := ⟨g, i * 15 + 3 + 3, none⟩) (OwnR.far (p := ⟨g, i * 15 + 3 + 2, none⟩) (OwnR.far (p := ⟨g, i * 15 + 3 + 1, none⟩) (OwnR.far (p := ⟨g, i * 15 + 3, none⟩) (h) hh.lt _) hh.lt _) hh.lt _) hh.lt _) hh.lt _) hh.lt _) hh.lt _) hh.lt _) hh.lt _) hh.lt _) hh.lt _) hh.lt _) hB.size
          unfold ownE
          simp only [hn0, hn1, hn2, hn3]
          exact ⟨⟨b0.1, hof b0.2⟩, ⟨b1.1, hof b1.2⟩, ⟨b2.1, hof b2.2⟩, b3.1, hof b3.2⟩
        · rw [List.getElem?_set_ne (Ne.symm e)] at h
          have h0 := gI.out i o h
          by_cases hik : i < k
          · rw [if_pos hik] at h0
            rw [if_pos (by omega)]
            refine h0.map (fun h => ⟨h.1, fun hp => ?_⟩)
            obtain ⟨g', cur', hA, hg', hb', ht'⟩ := h.2 hp
            have hne : g' ≠ g := hb'.ne_ hh (by decide)
            refine ⟨g', cur', hA, hg', ?_, ht'⟩
            rw [hW3]
            exact Blk.far (p := ⟨g, k * 15 + 3 + 11, none⟩) (Blk.far (p := ⟨g, k * 15 + 3 + 10, none⟩) (Blk.far (p := ⟨g, k * 15 + 3 + 9, none⟩) (Blk.far (p := ⟨g, k * 15 + 3 + 8, none⟩) (Blk.far (p := ⟨g, k * 15 + 3 + 7, none⟩) (Blk.far (p := ⟨g, k * 15 + 3 + 6, none⟩) (Blk.far (p := ⟨g, k * 15 + 3 + 5, none⟩) (Blk.far (p := ⟨g, k * 15 + 3 + 4, none⟩) (Blk.far (p := ⟨g, k * 15 + 3 + 3, none⟩) (Blk.far (p := ⟨g, k * 15 + 3 + 2, none⟩) (Blk.far (p := ⟨g, k * 15 + 3 + 1, none⟩) (Blk.far (p := ⟨g, k * 15 + 3, none⟩) (hb'.below hb2 hb'.lt) hne _) hne _) hne _) hne _) hne _) hne _) hne _) hne _) hne _) hne _) hne _) hne _
          · rw [if_neg hik] at h0
            rw [if_neg (by omega)]
            exact h0)
      clear t0 t1 t2 t3 t4 t5 t6 t7 t8 t9 t10 t11 hB3 ht3 hk3 hok hol htk hn0 hn1 hn2 hn3 b0 b1 b2 b3
      have gW3 := Lib.hid hW3
      clear hW3
      go_wp2
      rw [← gW3.out]
      go_roundw
      case rel => exact ⟨k + 1, _, by omega, by go_num, gos3, gown3, gI3, hB4⟩
      case measure => simp [intOf]; omega
    · obtain rfl : k = n := by omega
      have hacc : AccE wr w.heap.size (.slice Ao k co) k l := ⟨os, gos.out, gown.out, fun o ho => by
        obtain ⟨i, hi, e⟩ := List.getElem_of_mem ho
        have := gI.out i o (by rw [List.getElem?_eq_getElem hi, e])
        rw [if_pos (by rw [← gln.out, ← gos.out, List.length_map]; exact hi)] at this
        exact this⟩
      have gd := Lib.hid (accE_done hacc hB)
      clear hacc gos gown gI
      go_wp2
      go_ret
      exact ⟨Ao, co, rfl, gd.out⟩
end Go.Proofs.YtdmjdpaehnhdoaaDoor
namespace Go.Proofs.YtdmjdpaehnhdoaaDoor
open Go.ChangeShapes Go.WideShapes Go.ChangeAt Go.RowKit
set_option linter.unusedSimpArgs false
set_option linter.unusedVariables false
/-- A block that holds limbs of the load. -/
def blkO (X : Option Addr) (n g : Nat) : Prop := 0 < n ∧ X = some ⟨g, 0, none⟩
def hasB (o : EO) (g : Nat) : Prop := blkO o.X0 o.x.give.s.ls.length g ∨ blkO o.X1 o.x.give.w.ls.length g ∨ blkO o.X2 o.x.give.c.ls.length g ∨ blkO o.X3 o.x.give.a.ls.length g
theorem ownR_blkO {w : World} {b n g : Nat} {X : Option Addr} {xs : List Value} {t : TypeId} (h : OwnR w b t X n xs) (hg : blkO X n g) : b ≤ g ∧ ∃ cur, Blk w g t cur := by
  obtain ⟨g', cur, hA, hb, hB, _⟩ := h.2 hg.1
  rw [hg.2] at hA
  injection hA with hA
  injection hA with hA
  subst hA
  exact ⟨hb, cur, hB⟩
theorem ownE.has {w : World} {b g : Nat} {o : EO} (h : ownE w b o) (hg : hasB o g) : b ≤ g ∧ ∃ cur, Blk w g 71 cur := by
  rcases hg with hg | hg | hg | hg
  · exact ownR_blkO h.1.2 hg
  · exact ownR_blkO h.2.1.2 hg
  · exact ownR_blkO h.2.2.1.2 hg
  · exact ownR_blkO h.2.2.2.2 hg
end Go.Proofs.YtdmjdpaehnhdoaaDoor
