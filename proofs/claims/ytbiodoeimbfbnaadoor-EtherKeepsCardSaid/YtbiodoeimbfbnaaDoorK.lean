/- Ether: the program's Spoil, where it turns bits. -/
import Derived.Test.YtbiodoeimbfbnaaDoorJ
import Derived.Test.YtbiodoeimbfbnaaDoorOnes
import Derived.BigRegionIn
import Derived.Test.YtbiodoeimbfbnaaDoorStill
namespace Go.Proofs.YtbiodoeimbfbnaaDoor
open Go.ChangeShapes Go.WideShapes Go.ChangeAt Go.RowKit Go.Shelf
set_option linter.unusedSimpArgs false
set_option linter.unusedVariables false
attribute [local go_sem] Oper.semAt_some
def NC (W : World) (row : Option Nat) : Prop := ∀ r, row = some r → ∃ o : Obj, W.heap[r]? = some o ∧ o.isCells = false
theorem blk_nc {W W' : World} {row : Option Nat} {g : Nat} {t : TypeId} {cs : Array Value} (h : Blk W g t cs) (hg : W.grownBy W' row) (hr : NC W row) : Blk W' g t cs := by
  refine Blk.grown h hg (fun e => ?_)
  obtain ⟨o, ho, hc⟩ := hr g e.symm
  unfold Blk at h
  rw [h] at ho
  injection ho with ho
  subst ho
  cases hc
theorem OwnR.keepB {w w' : World} {base n : Nat} {e : TypeId} {X : Option Addr} {xs : List Value} (h : OwnR w base e X n xs) (hk : ∀ g t cs, X = some ⟨g, 0, none⟩ → Blk w g t cs → Blk w' g t cs) : OwnR w' base e X n xs :=
  ⟨h.1, fun h0 => by obtain ⟨g, cur, hA, hg, hh, ht⟩ := h.2 h0; exact ⟨g, cur, hA, hg, hk g _ _ hA hh, ht⟩⟩
theorem own_keepB {w w' : World} {base size n : Nat} {e : TypeId} {v : Value} {xs : List Value} (h : w.ownsRow base e size v n xs) (hk : ∀ g t cs, v.ownBlock = some g → Blk w g t cs → Blk w' g t cs) : w'.ownsRow base e size v n xs :=
  ⟨h.1, h.2.imp id fun ⟨g, c, cur, e1, h1, h2, r⟩ => ⟨g, c, cur, e1, h1, hk g _ _ (by rw [e1]; rfl) (show Blk w g e cur from h2), r⟩⟩
theorem kp_t {n K : Nat} {A B C : World} (h : Kp n K A B) (k : Kp n K B C) : Kp n K A C := ⟨h.1.trans k.1, fun b t cs hb hx => k.2.1 b t cs hb (h.2.1 b t cs hb hx), Nat.le_trans h.2.2 k.2.2⟩
theorem kp_b {n K : Nat} {w : World} (hn : n ≤ w.heap.size) (W : World) (l : Nat) (o o' : Obj) (hl : w.heap.size ≤ l) (ho : W.heap[l]? = some o) (hc : o.isCells = false) (hw : o.isWalk = false) : Kp n K W (W.putObj l o') :=
  ⟨belowK_b hn W l o o' hl ho hc hw, fun b t cs hb hx => blk_nc hx (grownBy_putObj' W l o') (fun r e => by cases e; exact ⟨o, ho, hc⟩), (grownBy_putObj' W l o').size⟩
theorem Sep.set_ {os : List (Cp × Option Addr × Nat)} {k : Nat} {o o' : Cp × Option Addr × Nat} (h : Sep os) (hk : os[k]? = some o) (hl : ∀ g, Lies o' g → Lies o g) : Sep (os.set k o') := by
  obtain ⟨hkl, hke⟩ := List.getElem?_eq_some_iff.1 hk
  refine List.pairwise_iff_getElem.2 (fun i j hi hj hij g g' h1 h2 => ?_)
  have hi' : i < os.length := by simpa using hi
  have hj' : j < os.length := by simpa using hj
  refine List.pairwise_iff_getElem.1 h i j hi' hj' hij g g' ?_ ?_
  · by_cases e : k = i
    · subst e
      rw [List.getElem_set_self] at h1
      rw [hke]
      exact hl g h1
    · rw [List.getElem_set_ne e] at h1
      exact h1
  · by_cases e : k = j
    · subst e
      rw [List.getElem_set_self] at h2
      rw [hke]
      exact hl g' h2
    · rw [List.getElem_set_ne e] at h2
      exact h2
/-- What the rounds keep. -/
def SpI (w : World) (base bo g n cap k p : Nat) (txt : List Nat) (os : List (Cp × Option Addr × Nat)) (ks : List Nat) (W : World) : Prop :=
  W.ownsRow base 37 4 (.slice (some ⟨g, 0, none⟩) n cap) n (os.flatMap row4) ∧
  (∀ j o, os[j]? = some o → OwnR W base 5 o.2.1 o.1.txt.length (ints .u8 (if j = k then turnBy p txt ks else o.1.txt))) ∧
  Blk W bo 22 #[.slice (some ⟨g, 0, none⟩) n cap] ∧ Blk W w.heap.size 3 #[.int .i64 (k : Int)] ∧ Blk W (w.heap.size + 1) 3 #[.int .i64 (p : Int)] ∧ Below w.heap.size w W
theorem SpI.nc {w : World} {base bo g n cap k p : Nat} {txt : List Nat} {os : List (Cp × Option Addr × Nat)} {ks : List Nat} {W W' : World} {row : Option Nat} (h : SpI w base bo g n cap k p txt os ks W) (hg : W.grownBy W' row) (hr : NC W row) (hw : ∀ r, row = some r → w.heap.size ≤ r) : SpI w base bo g n cap k p txt os ks W' := by
  obtain ⟨h1, h2, h3, h4, h5, h6⟩ := h
  exact ⟨own_keepB h1 (fun _ _ _ _ hb => blk_nc hb hg hr), fun j o ho => (h2 j o ho).keepB (fun _ _ _ _ hb => blk_nc hb hg hr), blk_nc h3 hg hr, blk_nc h4 hg hr, blk_nc h5 hg hr, h6.grown hg h6.size hw⟩
theorem SpI.box {w : World} {base bo g n cap k p Kb : Nat} {txt : List Nat} {os : List (Cp × Option Addr × Nat)} {ks : List Nat} {W : World} (h : SpI w base bo g n cap k p txt os ks W) (hos : ∀ o ∈ os, ∀ g, Lies o g → g < bo) (hg : g < bo) (hbo : bo < Kb) (hw : w.heap.size + 1 < bo) (v : Value) : SpI w base bo g n cap k p txt os ks (W.setCell ⟨Kb, 0, none⟩ v) := by
  obtain ⟨h1, h2, h3, h4, h5, h6⟩ := h
  refine ⟨own_keepB h1 (fun g' _ _ e hb => hb.far (p := ⟨Kb, 0, none⟩) ?_ v), fun j o ho => ⟨(h2 j o ho).1, fun h0 => ?_⟩, h3.far (p := ⟨Kb, 0, none⟩) (by simp; omega) v, h4.far (p := ⟨Kb, 0, none⟩) (by simp; omega) v, h5.far (p := ⟨Kb, 0, none⟩) (by simp; omega) v, h6.setCell (p := ⟨Kb, 0, none⟩) (by simp; omega) v⟩
  · simp [Value.ownBlock] at e
    simp
    omega
  · obtain ⟨g', cur, hA, hgb, hh, ht⟩ := (h2 j o ho).2 h0
    have := hos o (List.mem_of_getElem? ho) g' ⟨hA, h0⟩
    exact ⟨g', cur, hA, hgb, hh.far (p := ⟨Kb, 0, none⟩) (by simp; omega) v, ht⟩
/-- A round's store. -/
theorem SpI.turn {w : World} {base bo g n cap k p : Nat} {txt : List Nat} {os : List (Cp × Option Addr × Nat)} {ks : List Nat} {W : World} (h : SpI w base bo g n cap k p txt os ks W) {o : Cp × Option Addr × Nat} {g' q : Nat} (hk : os[k]? = some o) (ho : o.2.1 = some ⟨g', 0, none⟩) (hq : o.1.txt.length = q) (htl : txt.length = q) (hsep : Sep os) (hg'bo : g' < bo) (hwg : w.heap.size + 1 < base) {x : Nat} (hx : p + x < 8 * q) {b0 : Nat} (hb0 : (turnBy p txt ks).getD ((p + x) / 8) 0 = b0) :
    W.cell? ⟨g', (p + x) / 8, none⟩ = some (.int .u8 (b0 : Int)) ∧ W.frozen? ⟨g', (p + x) / 8, none⟩ = false ∧ g' ≠ g ∧ SpI w base bo g n cap k p txt os (ks ++ [x]) (W.setCell ⟨g', (p + x) / 8, none⟩ (.int .u8 ((b0 ^^^ 2 ^ ((p + x) % 8) : Nat) : Int))) ∧ Kp w.heap.size g' W (W.setCell ⟨g', (p + x) / 8, none⟩ (.int .u8 ((b0 ^^^ 2 ^ ((p + x) % 8) : Nat) : Int))) := by
  obtain ⟨h1, h2, h3, h4, h5, h6⟩ := h
  have hok := h2 k o hk
  rw [if_pos rfl, hq] at hok
  obtain ⟨gg, e, hgb, hgl, hc, hf, hs⟩ := hok.at_ (show (p + x) / 8 < q by omega)
  rw [ho] at e
  injection e with e
  injection e with e _ _
  subst e
  rw [ints_at .u8 (by rw [turnBy_len, htl]; omega), hb0] at hc
  have hblk : ∃ cs, Blk W g' 5 cs := by obtain ⟨g2, cur, e2, _, hb, _⟩ := hok.2 (by omega); rw [ho] at e2; injection e2 with e2; injection e2 with e2 _ _; subst e2; exact ⟨cur, hb⟩
  obtain ⟨cs, hblk⟩ := hblk
  have hne : g' ≠ g := by
    intro e
    subst e
    exact own_blk_ne h1 hblk (by decide) rfl
  have hlies : Lies o g' := ⟨ho, by omega⟩
  refine ⟨hc, hf, hne, ⟨own_keepB h1 (fun g2 _ _ e hb => hb.far (p := ⟨g', (p + x) / 8, none⟩) ?_ _), fun j o' ho' => ?_, h3.far (p := ⟨g', (p + x) / 8, none⟩) (by simp; omega) _, h4.far (p := ⟨g', (p + x) / 8, none⟩) (by simp; omega) _, h5.far (p := ⟨g', (p + x) / 8, none⟩) (by simp; omega) _, h6.setCell (p := ⟨g', (p + x) / 8, none⟩) (by simp; omega) _⟩, ⟨(Below.refl _ W).setCell (p := ⟨g', (p + x) / 8, none⟩) (by simp; omega) _, fun b t cs hb hx => hx.far (p := ⟨g', (p + x) / 8, none⟩) hb _, by simp⟩⟩
  · simp [Value.ownBlock] at e
    simp
    omega
  · by_cases hj : j = k
    · subst hj
      rw [hk] at ho'
      injection ho' with ho'
      subst ho'
      rw [if_pos rfl, hq]
      have hst := hs (.int .u8 ((b0 ^^^ 2 ^ ((p + x) % 8) : Nat) : Int))
      have hcells : (ints .u8 (turnBy p txt ks)).set ((p + x) / 8) (.int .u8 ((b0 ^^^ 2 ^ ((p + x) % 8) : Nat) : Int)) = ints .u8 (turnBy p txt (ks ++ [x])) := by
        rw [turnBy_snoc]
        unfold flipAt
        rw [hb0]
        simp [ints, List.map_set]
      rw [hcells] at hst
      exact hst
    · have h7 := h2 j o' ho'
      rw [if_neg hj] at h7 ⊢
      refine ⟨h7.1, fun h0 => ?_⟩
      obtain ⟨g2, cur, hA, hg2, hh, ht⟩ := h7.2 h0
      refine ⟨g2, cur, hA, hg2, hh.far (p := ⟨g', (p + x) / 8, none⟩) ?_ _, ht⟩
      obtain ⟨hkl, hke⟩ := List.getElem?_eq_some_iff.1 hk
      obtain ⟨hjl, hje⟩ := List.getElem?_eq_some_iff.1 ho'
      have hlies' : Lies o' g2 := ⟨hA, h0⟩
      rcases Nat.lt_or_gt_of_ne hj with h8 | h8
      · have := List.pairwise_iff_getElem.1 hsep j k hjl hkl h8 g2 g' (by rw [hje]; exact hlies') (by rw [hke]; exact hlies)
        simp
        omega
      · have := List.pairwise_iff_getElem.1 hsep k j hkl hjl h8 g' g2 (by rw [hke]; exact hlies) (by rw [hje]; exact hlies')
        simp
        omega
theorem KeepsOthers.drew_ {A B : World} (h : KeepsOthers A B) : KeepsOthers A B.drew := ⟨h.1, h.2⟩
theorem kp_drew {n K : Nat} {A B : World} (h : Kp n K A B) : Kp n K A B.drew := ⟨⟨h.1.1, h.1.2, h.1.3, h.1.4, h.1.5⟩, h.2.1, h.2.2⟩
theorem SpI.drew_ {w : World} {base bo g n cap k p : Nat} {txt : List Nat} {os : List (Cp × Option Addr × Nat)} {ks : List Nat} {W : World} (h : SpI w base bo g n cap k p txt os ks W) : SpI w base bo g n cap k p txt os ks W.drew :=
  ⟨h.1, h.2.1, h.2.2.1, h.2.2.2.1, h.2.2.2.2.1, ⟨h.2.2.2.2.2.1, h.2.2.2.2.2.2, h.2.2.2.2.2.3, h.2.2.2.2.2.4, h.2.2.2.2.2.5⟩⟩
theorem Acc.low {w : World} {base b' r : Nat} {v : Value} {l : List Cp} (h : Acc w base v r l) (hb : b' ≤ base) : Acc w b' v r l := by
  obtain ⟨os, e, ho, ht, hs⟩ := h
  exact ⟨os, e, ⟨ho.1, ho.2.imp id fun ⟨g, c, cur, e1, h1, h2⟩ => ⟨g, c, cur, e1, Nat.le_trans hb h1, h2⟩⟩, fun o h => ⟨(ht o h).1, (ht o h).2.1, fun h0 => by obtain ⟨g, cur, h1, h2, h3⟩ := (ht o h).2.2 h0; exact ⟨g, cur, h1, Nat.le_trans hb h2, h3⟩⟩, hs⟩
theorem Acc.nc {w w' : World} {base r : Nat} {v : Value} {l : List Cp} {row : Option Nat} (h : Acc w base v r l) (hg : w.grownBy w' row) (hr : NC w row) : Acc w' base v r l := by
  obtain ⟨os, e, ho, ht, hs⟩ := h
  exact ⟨os, e, own_keepB ho (fun _ _ _ _ hb => blk_nc hb hg hr), fun o h => ⟨(ht o h).1, (ht o h).2.keepB (fun _ _ _ _ hb => blk_nc hb hg hr)⟩, hs⟩
/-- Behind the rounds: the mark that it is spoilt is set. -/
theorem SpI.done {w : World} {base bo g n cap k p : Nat} {num dn : Int} {txt : List Nat} {l : List Cp} {os : List (Cp × Option Addr × Nat)} {ks : List Nat} {W : World} (h : SpI w base bo g n cap k p txt os ks W) (hos : os.map (·.1) = l) {X : Option Addr} {d : Nat} (hk : os[k]? = some (⟨num, dn, txt, false⟩, X, d)) (hsep : Sep os) (hcp : ∀ o ∈ os, o.1.txt.length ≤ o.2.2) :
    W.cell? ⟨g, k * 4 + 3, none⟩ = some (.bool false) ∧ W.frozen? ⟨g, k * 4 + 3, none⟩ = false ∧ Acc (W.setCell ⟨g, k * 4 + 3, none⟩ (.bool true)) base (.slice (some ⟨g, 0, none⟩) n cap) n (l.set k ⟨num, dn, turnBy p txt ks, true⟩) := by
  obtain ⟨h1, h2, h3, h4, h5, h6⟩ := h
  have hkl := (List.getElem?_eq_some_iff.1 hk).1
  have hlen : os.length = n := by
    have h1' := h1.1
    have h2 : ∀ os : List (Cp × Option Addr × Nat), (os.flatMap row4).length = os.length * 4 := by
      intro os
      induction os with
      | nil => rfl
      | cons x r ih => rw [List.flatMap_cons, List.length_append, ih, List.length_cons]; simp [row4]; omega
    rw [h2] at h1'
    omega
  have tl : (turnBy p txt ks).length = txt.length := turnBy_len _ _ _
  refine ⟨by rw [h1.cellAt _ (by omega)]; exact flat_at os k 3 _ (.bool false) hk rfl (by omega), h1.frozenAt _, os.set k (⟨num, dn, turnBy p txt ks, true⟩, X, d), by rw [List.map_set, hos], ?_, fun o ho => ?_, hsep.set_ hk (fun g hl => ⟨hl.1, by have := hl.2; simp only [tl] at this; exact this⟩)⟩
  · have h9 := (h1.stored (k * 4 + 3) (.bool true)).1
    rw [flat_set os k 3 _ (⟨num, dn, turnBy p txt ks, true⟩, X, d) _ hk (by simp [row4, tl]) (by omega)] at h9
    exact h9
  · obtain ⟨cs, hblk⟩ : ∃ cs, Blk W g 37 cs := by
      rcases h1.2 with ⟨h, _⟩ | ⟨g', cap', cur, h', _, hh, _⟩
      · cases h
      · injection h' with h' _ _
        injection h' with h'
        injection h' with h' _ _
        subst h'
        exact ⟨cur, hh⟩
    obtain ⟨j, hj, hjo⟩ := List.mem_iff_getElem.1 ho
    have hj' : j < os.length := by simpa using hj
    by_cases e : k = j
    · subst e
      rw [List.getElem_set_self] at hjo
      subst hjo
      have h7 := h2 k _ hk
      rw [if_pos rfl] at h7
      simp only [tl]
      exact ⟨hcp _ (List.mem_of_getElem? hk), h7.set_other hblk (by decide) _ _⟩
    · rw [List.getElem_set_ne e] at hjo
      subst hjo
      have h7 := h2 j _ (List.getElem?_eq_getElem hj')
      rw [if_neg (fun e2 => e e2.symm)] at h7
      exact ⟨hcp _ (List.getElem_mem hj'), h7.set_other hblk (by decide) _ _⟩
set_option maxRecDepth 100000 in
set_option maxHeartbeats 8000000 in
theorem spoil_ok (A : Option Addr) (n c : Nat) (l : List Cp) (m : Nat) (hm : n ≤ 1000) (hm32 : m < 4294967296) (w : World) (h1 : Cps w w.heap.size A n l) (k p : Nat) (hk : k < n) (hE : chkE l = 0) (hT : Tab w) (hby : ∀ x ∈ l, ∀ b ∈ x.txt, b < 256) (h0 : m ≠ 0) (num dn : Int) (txt : List Nat) (hl0 : l[k]? = some ⟨num, dn, txt, false⟩) (hfit : fitB txt.length (p : Int) m = true) :
    Calls Tryd.prog 9 #[.slice A n c, .int .i64 (k : Int), .int .i64 (p : Int), .int .u32 (m : Int)] w (SpOwn w (l.set k ⟨num, dn, turned txt p m, true⟩, 0)) := by
  have hB1 := ((Below.refl w.heap.size w).alloc (Nat.le_refl _) (.cells #[.int .i64 (k : Int)] 3)).alloc (by simp) (.cells #[.int .i64 (p : Int)] 3)
  have k5 := (Blk.new w 3 #[.int .i64 (k : Int)]).alloc (.cells #[.int .i64 (p : Int)] 3)
  have k6 := Blk.new (w.alloc (.cells #[.int .i64 (k : Int)] 3)) 3 #[.int .i64 (p : Int)]
  rw [World.size_alloc] at k6
  have h2 := (h1.below hB1).more hB1.size
  obtain ⟨num', dn', txt', sp, X, q, d, hl1, hx1, hxd1, rX, hat⟩ := at_ok A n c l k (by omega) hE hk _ h2
  rw [hl0] at hl1
  injection hl1 with hl1
  injection hl1 with e1 e2 e3 e4
  subst e1 e2 e3 e4
  have hq : q ≤ 4105 := by have := chk_txt hE (List.mem_of_getElem? hl0); simp only at this; omega
  rw [hx1] at hfit
  have hfit' := hfit
  unfold fitB at hfit'
  simp only [decide_eq_true_eq] at hfit'
  have t1 : ((m : Int) == 0) = false := beq_eq_false_iff_ne.2 (by omega)
  have t1' : (m == 0) = false := beq_eq_false_iff_ne.2 h0
  have t2 : decide ((p : Int) < 0) = false := decide_eq_false (by omega)
  have hlb := (len_bits hm32 h0).2.1
  have hfb : ∀ j : Nat, m.testBit j = true → p + j < 8 * q := fun j hj => by have := fit_bits hm32 hfit j hj; omega
  obtain ⟨L, hL⟩ : ∃ L, Lib.bitLen m = L := ⟨_, rfl⟩
  have hln := fun w' => len_any m hm32 w'
  rw [hL] at hln hlb hfit'
  have w1' : IntKind.i64.wrap (8 * (q : Int)) = 8 * (q : Int) := IntWalk.i64_in _ (by omega)
  have w2' : IntKind.i64.wrap (8 * (q : Int) - L) = 8 * (q : Int) - L := IntWalk.i64_in _ (by omega)
  have t3 : decide (8 * (q : Int) - L < p) = false := decide_eq_false (by omega)
  have ln := cps_len h1
  have hjn := fun w' g (hw : Below w.heap.size w w') (hw2 : Reads w' w'.heap.size 1 (some ⟨g, 0, none⟩) 1 [Value.slice A n c]) => joined_any (some ⟨g, 0, none⟩) 1 1 [(A, n, c, l)] (by omega) n (by simp [flat, ln]) (by omega) (by intro t ht x hx; simp at ht; subst ht; have := chk_txt hE hx; omega) w' hw2 (by intro t ht; simp at ht; subst ht; exact ⟨by simp only; omega, (h1.below hw).more hw.size⟩)
  have gl0 := Lib.hid hl0
  have gx1 := Lib.hid hx1
  have gfb := Lib.hid hfb
  have gtb := Lib.hid (hby _ (List.mem_of_getElem? hl0))
  have gln := Lib.hid ln
  have hkn : k < n := hk
  have gT := Lib.hid hT
  clear hE hk h1 h2 rX hx1 hl0 hfit hfit' hfb hby ln h0 hL hT
  refine (callsIn_wide (n := 6)).1 ?_
  refine callsIn_of_wp_marks Tryd.func9 rfl trivial ?_ rfl
  simp only [Tryd.ntmps9, List.size_toArray, List.length_cons, List.length_nil, Nat.reduceAdd, Nat.reduceSub, Array.replicate_succ, Array.replicate_zero, List.push_toArray, List.append_toArray, List.nil_append, List.cons_append]
  refine wpIn_wide.2 ?_
  go_wp2_with fail
  refine hat.mono ?_
  rintro en w1 ⟨rfl, hb2⟩
  have k5' := k5.below hb2 k5.lt
  have k6' := k6.below hb2 k6.lt
  have hb := hB1.trans (hb2.mono hB1.size)
  have c5 := k5'.cell 0
  have c6 := k6'.cell 0
  simp at c5 c6
  have s5 := k5'.lt
  have s6 := k6'.lt
  have n5 := World.new_ne w1 _ c5
  have n6 := World.new_ne w1 _ c6
  clear hat hb2 hB1 k5 k6
  go_wp2_with fail
  go_quiet ((go_at_call 22; exact Calls.quiet_of_same (hln _)))
  go_wp2_with fail
  obtain ⟨V0, hV0⟩ : ∃ V, V = (w1.alloc (.cells #[.int .i64 num, .int .i64 dn, .slice X q d, .bool false] 37)).drewN nq := ⟨_, rfl⟩
  have sz0 : V0.heap.size = w1.heap.size + 1 := by rw [hV0]; simp
  have hB0 : Below w1.heap.size w1 V0 := by rw [hV0]; exact below_drewN ((Below.refl _ _).alloc (Nat.le_refl _) _) nq
  rw [← hV0]
  have rl := reads_new V0 [.slice A n c] 22 1 rfl
  rw [sz0] at rl
  obtain ⟨V1, hV1⟩ : ∃ V, V = V0.alloc (.cells #[.slice A n c] 22) := ⟨_, rfl⟩
  have sz1 : V1.heap.size = w1.heap.size + 2 := by rw [hV1, World.size_alloc, sz0]
  have hB1 : Below w1.heap.size w1 V1 := by rw [hV1]; exact hB0.alloc (by omega) _
  have rl1 : Reads V1 V1.heap.size 1 (some ⟨w1.heap.size + 1, 0, none⟩) 1 [.slice A n c] := by rw [hV1, World.size_alloc, sz0]; exact rl
  rw [← hV1]
  have hBv := hb.trans (hB1.mono hb.size)
  have k5v := k5'.below hB1 s5
  have k6v := k6'.below hB1 s6
  clear hV0 hV1 rl hB0 sz0 c5 c6 n5 n6 hb k5' k6'
  refine (hjn V1 _ hBv rl1).mono ?_
  rintro en w2 ⟨Ao, co, rfl, hco, hcps, hwr, hb3, hacc⟩
  rw [show flat [(A, n, c, l)] = l by simp [flat]] at hcps hwr hacc
  clear hjn rl1
  go_wp2_with (go_at_call 24; (with_reducible refine (ones_any m _).mono ?_); rintro e w3 ⟨rfl, rfl⟩)
  obtain ⟨os, hos, hown, htx, hsep⟩ := hacc
  have hrk : ∃ X' d', os[k]? = some (⟨num, dn, txt, false⟩, X', d') := by
    have h := gl0.out
    rw [← hos, List.getElem?_map] at h
    obtain ⟨o, ho, he⟩ := Option.map_eq_some_iff.1 h
    obtain ⟨o1, X', d'⟩ := o
    simp only at he
    subst he
    exact ⟨X', d', ho⟩
  obtain ⟨X', d', hok⟩ := hrk
  obtain ⟨g, cap, hv, hgb, hgl⟩ := hown.form (by omega)
  injection hv with hA _ hcc
  subst hA hcc
  have htk := htx _ (List.mem_of_getElem? hok)
  simp only [gx1.out] at htk
  have hq0 : 0 < q := by
    obtain ⟨b1, b2, b3, _⟩ := len_bits hm32 (show m ≠ 0 by intro e; rw [e] at t1'; exact absurd t1' (by decide))
    have := gfb.out _ b3
    omega
  obtain ⟨g', c1, hX', hgb', hblk', hct'⟩ := htk.2.2 hq0
  subst hX'
  have hlt' := hblk'.lt
  have hb2' := k5v.lt
  have hb3' := k6v.lt
  have ltos : ∀ o ∈ os, ∀ g, Lies o g → g < w2.heap.size := fun o ho g hg => OwnR.lt (htx o ho).2 g hg.1 hg.2
  have hcp : ∀ o ∈ os, o.1.txt.length ≤ o.2.2 := fun o ho => (htx o ho).1
  have k5w := k5v.below hb3 k5v.lt
  have k6w := k6v.below hb3 k6v.lt
  have hBw := hBv.trans (hb3.mono hBv.size)
  have hsz2 := hb3.size
  have cI : SpI w V1.heap.size w2.heap.size g n co k p txt os [] w2 → True := fun _ => trivial
  clear cI
  obtain ⟨V2, hV2⟩ : ∃ V, V = w2.alloc (.cells #[.slice (some ⟨g, 0, none⟩) n co] 22) := ⟨_, rfl⟩
  have sz2 : V2.heap.size = w2.heap.size + 1 := by rw [hV2, World.size_alloc]
  have hB2 : Below w2.heap.size w2 V2 := by rw [hV2]; exact (Below.refl _ _).alloc (Nat.le_refl _) _
  have kO : Blk V2 w2.heap.size 22 #[.slice (some ⟨g, 0, none⟩) n co] := by rw [hV2]; exact Blk.new _ _ _
  obtain ⟨V3, hV3⟩ : ∃ V, V = V2.alloc (.cells #[.int .u32 (m : Int)] 23) := ⟨_, rfl⟩
  have sz3 : V3.heap.size = w2.heap.size + 2 := by rw [hV3, World.size_alloc, sz2]
  have hB3 : Below w2.heap.size w2 V3 := by rw [hV3]; exact hB2.alloc (by omega) _
  have kM : Blk V3 (w2.heap.size + 1) 23 #[.int .u32 (m : Int)] := by have h := Blk.new V2 23 #[.int .u32 (m : Int)]; rw [sz2, ← hV3] at h; exact h
  have hI0 : SpI w V1.heap.size w2.heap.size g n co k p txt os [] V3 := by
    refine ⟨own_below hown hB3, fun j o ho => ?_, ?_, k5w.below hB3 (by omega), k6w.below hB3 (by omega), hBw.trans (hB3.mono hBw.size)⟩
    · have h := (htx o (List.mem_of_getElem? ho)).2.below hB3
      split
      · rename_i e
        subst e
        rw [hok] at ho
        injection ho with ho
        subst ho
        exact h
      · exact h
    · rw [hV3]
      exact kO.alloc _
  have hT3 := gT.out.below (hBw.trans (hB3.mono hBw.size)) gT.out.2
  have hw0 := gT.out.2
  have hV3e : V3 = (w2.alloc (.cells #[.slice (some ⟨g, 0, none⟩) n co] 22)).alloc (.cells #[.int .u32 (m : Int)] 23) := by rw [hV3, hV2]
  rw [← hV3e]
  have gV3 := Lib.hid hV3e
  clear hV3e hV3 hV2 kO hown htx htk hblk' hct' hcps hwr k5v k6v hb3 hBv hBw k5w k6w hB2 sz2 gT
  have gok := Lib.hid hok
  have gos := Lib.hid hos
  have gsep := Lib.hid hsep
  have glt := Lib.hid ltos
  have gcp := Lib.hid hcp
  clear hok hos hsep ltos hcp hln
  refine (wpIn_wide (n := 6)).1 ?_
  refine wpIn_rangeFunc_box (α := Bit m) rfl (by omega) (gf := 35) (lb := #[.pointer (some ⟨w2.heap.size + 1, 0, none⟩)]) rfl trivial (enters_of Tryd.func35 (by kernel_rfl) rfl)
    (encs := fun x : Bit m => #[.int .i64 (x.1 : Int)]) (Kp := Kp w.heap.size g') (S := fun ys => ys.map Subtype.val = bitsOf m) (box := ⟨w2.heap.size + 1, 0, none⟩) (w0 := V3) ?hseq (by simp only; omega) kp_t (kp_b (by omega)) (Below.refl _ _) (fun _ => rfl)
    (fun pre W => SpI w V1.heap.size w2.heap.size g n co k p txt os (pre.map Subtype.val) W)
    (fun s A B row hs hgr hr => hs.nc hgr (fun r e => (hr r e).2) (fun r e => by have := (hr r e).1; omega))
    (fun s A v hs => hs.box glt.out hgl (by omega) (by omega) v)
    hI0 (fun x => { tmps := #[.slice A n c, .int .i64 (k : Int), .int .i64 (p : Int), .int .u32 (m : Int), undef, .pointer (some ⟨w.heap.size, 0, none⟩), .pointer (some ⟨w.heap.size + 1, 0, none⟩), undef, .slice none 0 0, .int .i64 0, .func (.func 21) #[.slice A n c] #[], .pointer (some ⟨w1.heap.size, 0, none⟩), .int .i64 0, .pointer (some ⟨w2.heap.size, 0, none⟩), .int .i64 ((x : Bit m).1 : Int), .slice A n c, .func (.func 21) #[.slice A n c] #[], .tuple #[.agg #[.int .i64 num, .int .i64 dn, .slice X q d, .bool false], .int .i64 0], .func (.func 21) #[.slice A n c] #[], .int .i64 (k : Int), .tuple #[.agg #[.int .i64 num, .int .i64 dn, .slice X q d, .bool false], .int .i64 0], .agg #[.int .i64 num, .int .i64 dn, .slice X q d, .bool false], .int .i64 0, .int .i64 0, .bool false, undef, .int .u32 (m : Int), .bool false, .bool false, .int .i64 (p : Int), .bool false, .bool false, .bool false, .int .i64 (p : Int), .pointer (some ⟨w1.heap.size, 2, none⟩), .slice X q d, .int .i64 (q : Int), .int .i64 (8 * (q : Int)), .int .u32 (m : Int), .int .i64 (L : Int), .int .i64 (8 * (q : Int) - (L : Int)), .bool false, .bool false, .pointer (some ⟨w1.heap.size, 3, none⟩), .bool false, .slice A n c, .slice (some ⟨w1.heap.size + 1, 0, none⟩) 1 1, .slice (some ⟨g, 0, none⟩) n co, .int .u32 (m : Int), .func (.func 35) #[] #[.pointer (some ⟨w2.heap.size + 1, 0, none⟩)], .int .i64 ((x : Bit m).1 : Int), undef, undef, undef, undef, undef, undef, undef, undef, undef, undef, undef, undef, undef, undef, undef, undef, undef, undef, undef, undef, undef, undef, undef], defers := [] }) ?assign ?body ?done
  case hseq =>
    intro l J W hW hJ hJb hY h0
    exact ones1_in 5 (by omega) l (w2.heap.size + 1) w.heap.size g' m hm32 (by omega) J W hw0 (by omega) hJb (hT3.below hW (by omega)) hY (kM.below hW (by omega)) h0
  case assign =>
    intro l x W K hK
    gi_wp2
    exact hK
  case body =>
    rintro l pre ⟨x, hxb⟩ W hI
    have hx8 := gfb.out x hxb
    have hx32 : x < 32 := by
      rcases Nat.lt_or_ge x 32 with h | h
      · exact h
      · have h2 : m < 2 ^ x := Nat.lt_of_lt_of_le hm32 (show 2 ^ 32 ≤ 2 ^ x from Nat.pow_le_pow_right (by omega) h)
        rw [Nat.testBit_lt_two_pow h2] at hxb
        cases hxb
    obtain ⟨b0, hb0⟩ : ∃ b, (turnBy p txt (pre.map Subtype.val)).getD ((p + x) / 8) 0 = b := ⟨_, rfl⟩
    have hb256 : b0 < 256 := by rw [← hb0]; exact getD_lt (by omega) (turnBy_lt p _ gtb.out) _
    have hst := hI.turn gok.out rfl gx1.out gx1.out gsep.out (by omega) (by omega) hx8 hb0
    obtain ⟨hc8, hf8, hgg, hI2, hk2⟩ := hst
    obtain ⟨i1, i2, i3, i4, i5, i6⟩ := hI
    have c13 : W.cell? ⟨w2.heap.size, 0, none⟩ = some (.slice (some ⟨g, 0, none⟩) n co) := i3.cell 0
    have c5 : W.cell? ⟨w.heap.size, 0, none⟩ = some (.int .i64 (k : Int)) := i4.cell 0
    have c6 : W.cell? ⟨w.heap.size + 1, 0, none⟩ = some (.int .i64 (p : Int)) := i5.cell 0
    have cX : W.cell? ⟨g, k * 4 + 2, none⟩ = some (.slice (some ⟨g', 0, none⟩) q d') := by
      rw [i1.cellAt _ (by omega), flat_at os k 2 _ (.slice (some ⟨g', 0, none⟩) q d') gok.out (by simp [row4, gx1.out]) (by omega)]
    have x1 : (0 : Int) ≤ k := by omega
    have x2 : (k : Int) < n := by omega
    have x5 : (0 : Int) ≤ ((p : Int) + x) / 8 := by omega
    have x6 : ((p : Int) + x) / 8 < (q : Int) := by omega
    have x7 := xor_fact hb256 (Nat.mod_lt (p + x) (show 8 > 0 by omega))
    have x8 : IntKind.i64.wrap ((p : Int) + x) = (p : Int) + x := IntWalk.i64_in _ (by omega)
    have x9 : IntKind.i64.wrap (((p : Int) + x).tdiv 8) = ((p : Int) + x) / 8 := IntWalk.i64_quo _ _ (by omega)
    have x10 : ((p : Int) + x).tmod 8 = ((p : Int) + x) % 8 := Int.tmod_eq_emod_of_nonneg (by omega)
    have x11 : (((p : Int) + x) / 8).toNat = (p + x) / 8 := by omega
    have x12 : (((p : Int) + x) % 8).toNat = (p + x) % 8 := by omega
    have gI2 := Lib.hid hI2
    have gk2 := Lib.hid hk2
    clear hb0 hI2 hk2 i1 i2 i3 i4 i5 i6 hI0 hT3 kM
    gi_wp2
    refine wpIn_still_round 18 (by kernel_rfl) (by kernel_rfl) (by kernel_rfl) (by rintro ⟨_, _, h⟩; exact h) ?_
    simp only [List.take_succ_cons, List.take_zero, List.drop_succ_cons, List.drop_zero]
    repeat still_step
    try refine wpStill_nil ?_
    go_wp2
    rw [x7]
    exact ⟨KeepsOthers.drew_ (KeepsOthers.setCell _ _ _), kp_drew gk2.out, SpI.drew_ (by rw [List.map_append]; exact gI2.out)⟩
  case done =>
    rintro D ys W hD hys hI hK
    have hd := hI.done gos.out gok.out gsep.out gcp.out
    rw [hys] at hd
    obtain ⟨d1, d2, d3⟩ := hd
    obtain ⟨i1, i2, i3, i4, i5, i6⟩ := hI
    have c13 : W.cell? ⟨w2.heap.size, 0, none⟩ = some (.slice (some ⟨g, 0, none⟩) n co) := i3.cell 0
    have c5 : W.cell? ⟨w.heap.size, 0, none⟩ = some (.int .i64 (k : Int)) := i4.cell 0
    have f13 : (W.setCell ⟨g, k * 4 + 3, none⟩ (.bool true)).cell? ⟨w2.heap.size, 0, none⟩ = some (.slice (some ⟨g, 0, none⟩) n co) := (i3.far (p := ⟨g, k * 4 + 3, none⟩) (by simp; omega) _).cell 0
    have x1 : (0 : Int) ≤ k := by omega
    have x2 : (k : Int) < n := by omega
    have hDl : D < W.heap.size := (Array.getElem?_eq_some_iff.1 hK).1
    have hDw : w.heap.size ≤ D := by omega
    have hB' := i6.setCell (p := ⟨g, k * 4 + 3, none⟩) (by simp; omega) (.bool true)
    have hK1 := (KeepsOthers.setCell W ⟨g, k * 4 + 3, none⟩ (.bool true)).same D _ hK rfl
    have d4 := (d3.low (show w.heap.size ≤ V1.heap.size by omega)).nc (grownBy_putObj' (W.setCell ⟨g, k * 4 + 3, none⟩ (.bool true)) D (.deferred none)) (fun r e => by injection e with e; subst e; exact ⟨_, hK1, rfl⟩)
    have hB2 := hB'.trans (belowK_b (w := w) (Nat.le_refl _) _ D _ (.deferred none) hDw hK1 rfl rfl)
    have hd := acc_done d4 hB2
    have gd := Lib.hid hd
    clear d3 d4 hB' hB2 hd hys i1 i2 i3 i4 i5 i6 hI0 hT3 kM
    gi_wp2
    go_wp2
    refine ⟨by simp, .inl ⟨_, _, rfl, run_takeDeferred hK1, ?_⟩⟩
    refine ⟨.tuple #[.slice (some ⟨g, 0, none⟩) n co, .int .i64 0], ?_, some ⟨g, 0, none⟩, co, by rw [show (l.set k (⟨num, dn, turned txt p m, true⟩ : Cp)).length = n by rw [List.length_set, gln.out]], by simpa [gln.out] using hco, ?_⟩
    · simp [results, Tryd.func9, go_sem, gln.out]
    · simp only [List.length_set, gln.out]
      exact ⟨gd.out.2.1, gd.out.2.2.1, gd.out.2.2.2.1⟩
end Go.Proofs.YtbiodoeimbfbnaaDoor
