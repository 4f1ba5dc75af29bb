/- Ether: the program's Take. -/
import Derived.Test.YtbiodoeimbfbnaaN
namespace Go.Proofs.Ytbiodoeimbfbnaa
open Go.ChangeShapes Go.WideShapes Go.ChangeAt Go.RowKit
set_option linter.unusedSimpArgs false
set_option linter.unusedVariables false
/-- What taking answers. -/
theorem own_keepB {w w' : World} {base size n : Nat} {e : TypeId} {v : Value} {xs : List Value} (h : w.ownsRow base e size v n xs) (hk : ∀ g t cs, v.ownBlock = some g → Blk w g t cs → Blk w' g t cs) : w'.ownsRow base e size v n xs :=
  ⟨h.1, h.2.imp id fun ⟨g, c, cur, e1, h1, h2, r⟩ => ⟨g, c, cur, e1, h1, hk g _ _ (by rw [e1]; rfl) (show Blk w g e cur from h2), r⟩⟩
def tkS (l : List Cp) (i : Int) : List Cp × Cp × Int :=
  if chkE l = 0 then
    match (if 0 ≤ i then l[i.toNat]? else none) with
    | none => ([], ⟨0, 0, [], false⟩, 2)
    | some c => (l.take i.toNat ++ l.drop (i.toNat + 1), c, 0)
  else ([], ⟨0, 0, [], false⟩, chkE l)
theorem tk_err {l : List Cp} {i : Int} {E : Int} (h : chkE l = E) (h0 : E ≠ 0) : tkS l i = ([], ⟨0, 0, [], false⟩, E) := by
  unfold tkS
  rw [if_neg (by rw [h]; exact h0), h]
theorem tk_out {l : List Cp} {i : Int} (h : chkE l = 0) (hi : i < 0 ∨ (l.length : Int) ≤ i) : tkS l i = ([], ⟨0, 0, [], false⟩, 2) := by
  unfold tkS
  rw [if_pos h]
  rcases hi with hi | hi
  · rw [if_neg (by omega)]
  · rw [if_pos (by omega), List.getElem?_eq_none (by omega)]
theorem tk_in {l : List Cp} {k : Nat} {c : Cp} (h : chkE l = 0) (hc : l[k]? = some c) : tkS l (k : Int) = (l.take k ++ l.drop (k + 1), c, 0) := by
  unfold tkS
  rw [if_pos h, if_pos (by omega)]
  simp [hc]
/-- Copies, a copy and an error are answered, in memory of the call's own, the copy's text apart. -/
def TkOwn (w : World) (R : List Cp × Cp × Int) (en : Ending) (w' : World) : Prop :=
  ∃ Ao co X m d K, en = .returned (.tuple #[.slice Ao R.1.length co, .agg #[.int .i64 R.2.1.num, .int .i64 R.2.1.dn, .slice X m d, .bool R.2.1.sp], .int .i64 R.2.2]) ∧ R.1.length ≤ co ∧ Cps w' w'.heap.size Ao R.1.length R.1 ∧
    R.2.1.txt.length = m ∧ m ≤ d ∧ Reads w' w'.heap.size 1 X m (ints .u8 R.2.1.txt) ∧ w.heap.size ≤ K ∧ K ≤ w'.heap.size ∧ Wr w' (fun g => K ≤ g ∧ g < w'.heap.size) 25 4 Ao R.1.length (R.1.map fds) ∧ WrR w' (fun g => w.heap.size ≤ g ∧ g < K) 25 X m ∧ Below w.heap.size w w'
theorem tko_nil {w w' : World} (hb : Below w.heap.size w w') (E : Int) : TkOwn w ([], ⟨0, 0, [], false⟩, E) (.returned (.tuple #[.slice none 0 0, .agg #[.int .i64 0, .int .i64 0, .slice none 0 0, .bool false], .int .i64 E])) w' :=
  ⟨none, 0, none, 0, 0, w.heap.size, rfl, Nat.le_refl _, Recs.none_, rfl, Nat.le_refl _, Reads.none_, Nat.le_refl _, hb.size, Wr.none_, fun h => absurd h (by omega), hb⟩
theorem box4 {w : World} {g : Nat} {T : TypeId} {v0 v1 v2 v3 : Value} (h : Blk w g T #[v0, v1, v2, v3]) (u0 u1 u2 u3 : Value) : Blk ((((w.setCell ⟨g, 0, none⟩ u0).setCell ⟨g, 1, none⟩ u1).setCell ⟨g, 2, none⟩ u2).setCell ⟨g, 3, none⟩ u3) g T #[u0, u1, u2, u3] := by
  have := (((h.set_ 0 u0).set_ 1 u1).set_ 2 u2).set_ 3 u3
  simpa using this
theorem box4_below {B : Nat} {w W : World} (h : Below B w W) {g : Nat} (hg : B ≤ g) (u0 u1 u2 u3 : Value) : Below B w ((((W.setCell ⟨g, 0, none⟩ u0).setCell ⟨g, 1, none⟩ u1).setCell ⟨g, 2, none⟩ u2).setCell ⟨g, 3, none⟩ u3) :=
  (((h.setCell (p := ⟨g, 0, none⟩) hg u0).setCell (p := ⟨g, 1, none⟩) hg u1).setCell (p := ⟨g, 2, none⟩) hg u2).setCell (p := ⟨g, 3, none⟩) hg u3
theorem OwnR.wr {w : World} {base n : Nat} {e E : TypeId} {A : Option Addr} {xs : List Value} {S : Nat → Prop} (h : OwnR w base e A n xs) (hS : ∀ g, base ≤ g → g < w.heap.size → S g) (hl : xs.length = n) (he : e ≠ E) : WrR w S E A n := fun h0 => by
  obtain ⟨g, cur, e1, hg, hb, ht⟩ := h.2 h0
  exact ⟨g, e, cur, e1, hS g hg hb.lt, hb, by have := congrArg List.length ht; rw [List.length_take, hl] at this; simp at this; omega, he⟩
def b4 (w : World) (g : Nat) (u0 u1 u2 u3 : Value) : World := (((w.setCell ⟨g, 0, none⟩ u0).setCell ⟨g, 1, none⟩ u1).setCell ⟨g, 2, none⟩ u2).setCell ⟨g, 3, none⟩ u3
theorem b4_size (w : World) (g : Nat) (u0 u1 u2 u3 : Value) : (b4 w g u0 u1 u2 u3).heap.size = w.heap.size := by simp [b4]
theorem b4_far {w : World} {g h : Nat} {T : TypeId} {cs : Array Value} (hb : Blk w h T cs) (hne : h ≠ g) (u0 u1 u2 u3 : Value) : Blk (b4 w g u0 u1 u2 u3) h T cs :=
  (((hb.far (p := ⟨g, 0, none⟩) hne u0).far (p := ⟨g, 1, none⟩) hne u1).far (p := ⟨g, 2, none⟩) hne u2).far (p := ⟨g, 3, none⟩) hne u3
theorem take_end {w V V4 W5 w3 : World} {l : List Cp} {N co q dco : Nat} {Ao Xo : Option Addr} {num dn : Int} {sp : Bool} {txt : List Nat} (hV : w.heap.size < V.heap.size) (hVV : V.heap.size ≤ V4.heap.size) (hs5 : W5.heap.size = V4.heap.size + 1) (hb5 : Below w.heap.size w V4) (hb6 : Below V4.heap.size V4 w3) (htw : TwPost W5 N l Ao co w3)
    (own : OwnR V4 V.heap.size 5 Xo q (ints .u8 txt)) (hq : txt.length = q) (hd : q ≤ dco) :
    TkOwn w (l, ⟨num, dn, txt, sp⟩, 0) (.returned (.tuple #[.slice Ao N co, .agg #[.int .i64 num, .int .i64 dn, .slice Xo q dco, .bool sp], .int .i64 0])) (b4 w3 w.heap.size (.int .i64 num) (.int .i64 dn) (.slice Xo q dco) (.bool sp)) := by
  obtain ⟨hc, hcps, hwr, hb7, hacc⟩ := htw
  have hN : l.length = N := cps_len hcps
  have hs7 := hb7.size
  obtain ⟨os, hos, ho, ht, hsp⟩ := hacc
  have ho' := own_keepB ho (w' := b4 w3 w.heap.size (.int .i64 num) (.int .i64 dn) (.slice Xo q dco) (.bool sp)) (fun g t cs e hb => b4_far hb (by
    rcases ho.2 with ⟨h0, _⟩ | ⟨g', _, _, h0, h1, _⟩
    · rw [h0] at e; simp [Value.ownBlock] at e
    · rw [h0] at e; simp [Value.ownBlock] at e; omega) _ _ _ _)
  have ht' : ∀ o ∈ os, o.1.txt.length ≤ o.2.2 ∧ OwnR (b4 w3 w.heap.size (.int .i64 num) (.int .i64 dn) (.slice Xo q dco) (.bool sp)) W5.heap.size 5 o.2.1 o.1.txt.length (ints .u8 o.1.txt) := fun o h =>
    ⟨(ht o h).1, (ht o h).2.1, fun h0 => by obtain ⟨g, cur, h1, h2, h3, h4⟩ := (ht o h).2.2 h0; exact ⟨g, cur, h1, h2, b4_far h3 (by omega) _ _ _ _, h4⟩⟩
  have hcps' := rows_cps ho' ht'
  rw [hos] at hcps'
  have hX : OwnR (b4 w3 w.heap.size (.int .i64 num) (.int .i64 dn) (.slice Xo q dco) (.bool sp)) V.heap.size 5 Xo q (ints .u8 txt) :=
    ⟨own.1, fun h0 => by obtain ⟨g, cur, h1, h2, h3, h4⟩ := own.2 h0; exact ⟨g, cur, h1, h2, b4_far (h3.below hb6 h3.lt) (by omega) _ _ _ _, h4⟩⟩
  have hlt := own.lt
  refine ⟨Ao, co, Xo, q, dco, W5.heap.size, by simp only [hN], by rw [hN]; exact hc, by rw [hN]; exact hcps', hq, hd, hX.reads, by omega, by rw [b4_size]; omega, ?_, ?_, box4_below (hb5.trans (hb6.mono hb5.size)) (Nat.le_refl _) _ _ _ _⟩
  · rw [hN]
    refine (hwr.keep (fun g t cs hg hb => b4_far hb (by omega) _ _ _ _)).mono (fun g hg => ?_)
    rw [b4_size]
    exact hg
  · intro h0
    obtain ⟨g, cur, h1, h2, h3, h4⟩ := hX.2 h0
    have := hlt g h1 h0
    refine ⟨g, 5, cur, h1, ⟨by omega, by omega⟩, h3, ?_, by decide⟩
    have := congrArg List.length h4
    rw [List.length_take, own.1] at this
    simp at this
    omega
set_option maxHeartbeats 4000000 in
theorem at_ok2 (A : Option Addr) (n c : Nat) (l : List Cp) (k : Nat) (hm : n ≤ 10000) (hE : chkE l = 0) (hk : k < n) (w0 w : World) (hw0 : Below w0.heap.size w0 w) (h1 : Cps w0 w0.heap.size A n l) :
    ∃ num dn txt sp X m d, l[k]? = some ⟨num, dn, txt, sp⟩ ∧ txt.length = m ∧ m ≤ d ∧ Reads w0 w0.heap.size 1 X m (ints .u8 txt) ∧
    Calls Try.prog 24 #[.slice A n c, .int .i64 (k : Int)] w fun en w' => en = .returned (.tuple #[.agg #[.int .i64 num, .int .i64 dn, .slice X m d, .bool sp], .int .i64 0]) ∧ Below w.heap.size w w' := by
  obtain ⟨ad, num, dn, txt, sp, X, m, d, rfl, hb1, hl1, hx1, hxd1, hrel1⟩ := cps_rel h1 hk
  refine ⟨num, dn, txt, sp, X, m, d, hl1, hx1, hxd1, (hrel1 w0 (Below.refl _ _)).1, ?_⟩
  obtain ⟨E, hE'⟩ : ∃ E : Int, E = 0 := ⟨_, rfl⟩
  rw [← hE'] at hE
  have hkn := hk
  clear hk
  obtain ⟨A, hA⟩ : ∃ A, A = some ad := ⟨_, rfl⟩
  rw [← hA] at h1
  have hB1 := (Below.refl w.heap.size w).alloc (Nat.le_refl _) (.cells #[.int .i64 0, .int .i64 0, .slice none 0 0, .bool false] 25)
  have hck := check_any A n c l hm E hE (w.alloc (.cells #[.int .i64 0, .int .i64 0, .slice none 0 0, .bool false] 25)) ((((h1.below hw0).more hw0.size).below hB1).more hB1.size)
  have hk := Blk.new w 25 #[.int .i64 0, .int .i64 0, .slice none 0 0, .bool false]
  subst hE' hA
  have t1 : decide ((k : Int) < 0) = false := decide_eq_false (by omega)
  have t2 : decide ((n : Int) ≤ k) = false := decide_eq_false (by omega)
  have t3 : decide (n ≤ k) = false := decide_eq_false (by omega)
  have i1 : (0 : Int) ≤ k := by omega
  have i2 : (k : Int) < n := by omega
  have hrelW := fun w' (h : Below w.heap.size w w') => (hrel1 w' (hw0.trans (h.mono hw0.size))).2
  clear hE h1 hrel1 hl1 hx1
  go_enter Try.func24, Try.ntmps24
  go_wp2_with fail
  refine hck.mono ?_
  rintro en w1 ⟨rfl, hb1⟩
  have kb := hk.below hb1 hk.lt
  have hb := hB1.trans (hb1.mono hB1.size)
  have k0 := kb.cell 0
  have k1 := kb.cell 1
  have k2 := kb.cell 2
  have k3 := kb.cell 3
  simp at k0 k1 k2 k3
  have f0 := kb.frozen 0
  have f1 := kb.frozen 1
  have f2 := kb.frozen 2
  have f3 := kb.frozen 3
  have ks := kb.lt
  obtain ⟨a0, a1, a2, a3⟩ := hrelW w1 hb
  clear hck hb1 hB1 hk hrelW
  go_wp2
  refine bodyPost_ret (v := .tuple #[.agg #[.int .i64 num, .int .i64 dn, .slice X m d, .bool sp], .int .i64 0]) ?_ rfl ⟨rfl, ?_⟩
  · simp [results, Try.f24, go_sem, k0, k1, k2, k3, f0, f1, f2, f3]
  · exact ((((hb.setCell (p := ⟨w.heap.size, 0, none⟩) (Nat.le_refl _) _).setCell (p := ⟨w.heap.size, 1, none⟩) (Nat.le_refl _) _).setCell (p := ⟨w.heap.size, 2, none⟩) (Nat.le_refl _) _).setCell (p := ⟨w.heap.size, 3, none⟩) (Nat.le_refl _) _)
set_option maxRecDepth 100000 in
set_option maxHeartbeats 8000000 in
theorem take_any (A : Option Addr) (n c : Nat) (l : List Cp) (hn : n ≤ 1000) (hnc : n ≤ c) (i : Int) (w : World) (h1 : Cps w w.heap.size A n l) :
    Calls Try.prog 8 #[.slice A n c, .int .i64 i] w (TkOwn w (tkS l i)) := by
  have ln := cps_len h1
  have hA := (Below.refl w.heap.size w).alloc (Nat.le_refl _) (.cells #[.int .i64 0, .int .i64 0, .slice none 0 0, .bool false] 25)
  have kb := Blk.new w 25 #[.int .i64 0, .int .i64 0, .slice none 0 0, .bool false]
  have hA1 := (h1.below hA).more hA.size
  by_cases hE : chkE l = 0
  rotate_left
  · rw [tk_err rfl hE]
    obtain ⟨E, hE'⟩ : ∃ E, chkE l = E := ⟨_, rfl⟩
    rw [hE'] at hE ⊢
    have hat := at_err A n c l i (by omega) E hE' hE _ hA1
    have t1 : (E != 0) = true := bne_iff_ne.2 hE
    clear hE hE' h1 ln hA1
    go_enter Try.func8, Try.ntmps8
    go_wp2_with fail
    refine hat.mono ?_
    rintro en w1 ⟨rfl, hb1⟩
    unfold zeroC
    have hb := hA.trans (hb1.mono hA.size)
    have kb1 := kb.below hb1 kb.lt
    have ce0 := kb1.cell 0
    have ce1 := kb1.cell 1
    have ce2 := kb1.cell 2
    have ce3 := kb1.cell 3
    have cf0 := kb1.frozen 0
    have cf1 := kb1.frozen 1
    have cf2 := kb1.frozen 2
    have cf3 := kb1.frozen 3
    simp at ce0 ce1 ce2 ce3
    have kl := kb1.lt
    have k2 := box4 (box4 kb1 (.int .i64 0) (.int .i64 0) (.slice none 0 0) (.bool false)) (.int .i64 0) (.int .i64 0) (.slice none 0 0) (.bool false)
    have hb2 := box4_below (box4_below hb (Nat.le_refl _) (.int .i64 0) (.int .i64 0) (.slice none 0 0) (.bool false)) (Nat.le_refl _) (.int .i64 0) (.int .i64 0) (.slice none 0 0) (.bool false)
    have q0 := k2.cell 0
    have q1 := k2.cell 1
    have q2 := k2.cell 2
    have q3 := k2.cell 3
    simp only [List.getElem?_toArray, List.getElem?_cons_zero, List.getElem?_cons_succ] at q0 q1 q2 q3
    clear hb1 kb kb1 hat k2
    go_wp2
    refine ⟨rfl, .tuple #[.slice none 0 0, .agg #[.int .i64 0, .int .i64 0, .slice none 0 0, .bool false], .int .i64 E], ?_, tko_nil hb2 E⟩
    simp [results, Try.f8, go_sem, q0, q1, q2, q3]
  by_cases hi : i < 0 ∨ (n : Int) ≤ i
  · rw [tk_out hE (by rw [ln]; exact hi)]
    have hat := at_arg A n c l i (by omega) hE hi _ hA1
    clear hE h1 ln hA1 hi
    go_enter Try.func8, Try.ntmps8
    go_wp2_with fail
    refine hat.mono ?_
    rintro en w1 ⟨rfl, hb1⟩
    unfold zeroC
    have hb := hA.trans (hb1.mono hA.size)
    have kb1 := kb.below hb1 kb.lt
    have ce0 := kb1.cell 0
    have ce1 := kb1.cell 1
    have ce2 := kb1.cell 2
    have ce3 := kb1.cell 3
    have cf0 := kb1.frozen 0
    have cf1 := kb1.frozen 1
    have cf2 := kb1.frozen 2
    have cf3 := kb1.frozen 3
    simp at ce0 ce1 ce2 ce3
    have kl := kb1.lt
    have k2 := box4 (box4 kb1 (.int .i64 0) (.int .i64 0) (.slice none 0 0) (.bool false)) (.int .i64 0) (.int .i64 0) (.slice none 0 0) (.bool false)
    have hb2 := box4_below (box4_below hb (Nat.le_refl _) (.int .i64 0) (.int .i64 0) (.slice none 0 0) (.bool false)) (Nat.le_refl _) (.int .i64 0) (.int .i64 0) (.slice none 0 0) (.bool false)
    have q0 := k2.cell 0
    have q1 := k2.cell 1
    have q2 := k2.cell 2
    have q3 := k2.cell 3
    simp only [List.getElem?_toArray, List.getElem?_cons_zero, List.getElem?_cons_succ] at q0 q1 q2 q3
    clear hb1 kb kb1 hat k2
    go_wp2
    refine ⟨rfl, .tuple #[.slice none 0 0, .agg #[.int .i64 0, .int .i64 0, .slice none 0 0, .bool false], .int .i64 2], ?_, tko_nil hb2 2⟩
    simp [results, Try.f8, go_sem, q0, q1, q2, q3]
  obtain ⟨k, rfl⟩ : ∃ k : Nat, i = k := ⟨i.toNat, by omega⟩
  have hk : k < n := by omega
  obtain ⟨num, dn, txt, sp, X, q, d, hl1, hx1, hxd1, rX, hat⟩ := at_ok2 A n c l k (by omega) hE hk w _ hA h1
  rw [tk_in hE hl1]
  have htx : ∀ x ∈ l, x.txt.length ≤ 10000 := fun x hx => by have := chk_txt hE hx; omega
  have hq := htx _ (List.mem_of_getElem? hl1)
  simp only at hq
  clear hE hi
  go_enter Try.func8, Try.ntmps8
  go_wp2_with fail
  refine hat.mono ?_
  rintro en w1 ⟨rfl, hb1⟩
  have hb := hA.trans (hb1.mono hA.size)
  have kb1 := kb.below hb1 kb.lt
  have ce0 := kb1.cell 0
  have ce1 := kb1.cell 1
  have ce2 := kb1.cell 2
  have ce3 := kb1.cell 3
  have cf0 := kb1.frozen 0
  have cf1 := kb1.frozen 1
  have cf2 := kb1.frozen 2
  have cf3 := kb1.frozen 3
  simp at ce0 ce1 ce2 ce3
  have kl := kb1.lt
  have k2 := box4 kb1 (.int .i64 num) (.int .i64 dn) (.slice X q d) (.bool sp)
  have hb2 := box4_below hb (Nat.le_refl _) (.int .i64 num) (.int .i64 dn) (.slice X q d) (.bool sp)
  obtain ⟨V, hV⟩ : ∃ V, V = ((((w1.setCell ⟨w.heap.size, 0, none⟩ (.int .i64 num)).setCell ⟨w.heap.size, 1, none⟩ (.int .i64 dn)).setCell ⟨w.heap.size, 2, none⟩ (.slice X q d)).setCell ⟨w.heap.size, 3, none⟩ (.bool sp)) := ⟨_, rfl⟩
  rw [← hV] at k2 hb2
  have rX2 : Reads V V.heap.size 1 X q (ints .u8 txt) := (rX.below hb2).more hb2.size
  have hcl := clone_any X q d txt hx1 (by omega) V rX2
  clear hb1 kb kb1 hat
  go_wp2_with fail
  rw [← hV]
  refine hcl.mono ?_
  rintro en w2 ⟨Xo, dco, rfl, hdo, own2, hb3⟩
  have k3 := k2.below hb3 k2.lt
  have hb4 := hb2.trans (hb3.mono hb2.size)
  have ce0 := k3.cell 0
  have ce1 := k3.cell 1
  have ce2 := k3.cell 2
  have ce3 := k3.cell 3
  have cf0 := k3.frozen 0
  have cf1 := k3.frozen 1
  have cf2 := k3.frozen 2
  have cf3 := k3.frozen 3
  simp at ce0 ce1 ce2 ce3
  have kl := k3.lt
  have i1 : (0 : Int) ≤ k := by omega
  have i2 : (k : Int) ≤ n := by omega
  have i3 : (k : Int) + 1 ≤ n := by omega
  have i4 : (k : Int) ≤ c := by omega
  have i5 : (k : Int) + 1 ≤ c := by omega
  have i6 : ¬ c = 0 := by omega
  have i7 : (0 : Int) ≤ (k : Int) + 1 := by omega
  have i8 : ((k : Int) + 1).toNat = k + 1 := by omega
  have w9 : IntKind.i64.wrap ((k : Int) + 1) = (k : Int) + 1 := IntWalk.i64_in _ (by omega)
  clear hcl rX2
  go_wp2_with fail
  have k4 := k3.set_ 2 (.slice Xo q dco)
  have hb5 := hb4.setCell (p := ⟨w.heap.size, 2, none⟩) (Nat.le_refl _) (.slice Xo q dco)
  have own4 := own2.far (p := ⟨w.heap.size, 2, none⟩) k2.lt (.slice Xo q dco)
  obtain ⟨V4, hV4⟩ : ∃ V, V = w2.setCell ⟨w.heap.size, 2, none⟩ (.slice Xo q dco) := ⟨_, rfl⟩
  have k4' : Blk V4 w.heap.size 25 #[.int .i64 num, .int .i64 dn, .slice Xo q dco, .bool sp] := by rw [hV4]; simpa using k4
  rw [← hV4] at hb5 own4 ⊢
  have SB : ∀ w', Blk w' w.heap.size 25 #[.int .i64 num, .int .i64 dn, .slice Xo q dco, .bool sp] → w'.cell? ⟨w.heap.size, 0, none⟩ = some (.int .i64 num) ∧ w'.cell? ⟨w.heap.size, 1, none⟩ = some (.int .i64 dn) ∧ w'.cell? ⟨w.heap.size, 2, none⟩ = some (.slice Xo q dco) ∧ w'.cell? ⟨w.heap.size, 3, none⟩ = some (.bool sp) ∧ w'.frozen? ⟨w.heap.size, 0, none⟩ = false ∧ w'.frozen? ⟨w.heap.size, 1, none⟩ = false ∧ w'.frozen? ⟨w.heap.size, 2, none⟩ = false ∧ w'.frozen? ⟨w.heap.size, 3, none⟩ = false := by
    intro w' k5
    have c0 := k5.cell 0
    have c1 := k5.cell 1
    have c2 := k5.cell 2
    have c3 := k5.cell 3
    simp only [List.getElem?_toArray, List.getElem?_cons_zero, List.getElem?_cons_succ] at c0 c1 c2 c3
    exact ⟨c0, c1, c2, c3, k5.frozen 0, k5.frozen 1, k5.frozen 2, k5.frozen 3⟩
  have SS : ∀ w', Below V4.heap.size V4 w' → w'.cell? ⟨w.heap.size, 0, none⟩ = some (.int .i64 num) ∧ w'.cell? ⟨w.heap.size, 1, none⟩ = some (.int .i64 dn) ∧ w'.cell? ⟨w.heap.size, 2, none⟩ = some (.slice Xo q dco) ∧ w'.cell? ⟨w.heap.size, 3, none⟩ = some (.bool sp) ∧ w'.frozen? ⟨w.heap.size, 0, none⟩ = false ∧ w'.frozen? ⟨w.heap.size, 1, none⟩ = false ∧ w'.frozen? ⟨w.heap.size, 2, none⟩ = false ∧ w'.frozen? ⟨w.heap.size, 3, none⟩ = false := fun w' hw => SB w' (k4'.below hw k4'.lt)
  have gk4 := Lib.hid k4'
  have gVV := Lib.hid (And.intro k2.lt (show V.heap.size ≤ V4.heap.size by rw [hV4, World.size_setCell]; exact hb3.size))
  have kf := k4'.frozen
  have cf0 := kf 0
  have cf1 := kf 1
  have cf2 := kf 2
  have cf3 := kf 3
  have kl := k4'.lt
  clear ce0 ce1 ce2 ce3 k4 k3 kf hb4 hb3 own2 hV4
  by_cases hck : c = k + 1
  · obtain rfl : n = k + 1 := by omega
    subst hck
    have j4 : (k : Int) ≤ (k : Int) + 1 := by omega
    have j5 : (k : Int) ≤ ((k + 1 : Nat) : Int) := by omega
    obtain ⟨W5, hW5⟩ : ∃ W, W = (V4.alloc (.cells #[.slice A k (k + 1), .slice A 0 0] 22)).drew := ⟨_, rfl⟩
    have b5 : Below V4.heap.size V4 W5 := by rw [hW5]; exact Below.drew ((Below.refl _ _).alloc (Nat.le_refl _) _)
    have rl := reads_new V4 [.slice A k (k + 1), .slice A 0 0] 22 2 rfl
    have sz5 : W5.heap.size = V4.heap.size + 1 := by rw [hW5]; simp [World.drew]
    have rl5 : Reads W5 W5.heap.size 1 (some ⟨V4.heap.size, 0, none⟩) 2 [.slice A k (k + 1), .slice A 0 0] := by rw [sz5, hW5]; exact rl
    have hb5' := hb5.trans (b5.mono hb5.size)
    have h5 := (h1.below hb5').more hb5'.size
    have t5 := h5.take (show k ≤ (k + 1) by omega)
    have d5 := h5.cut (show k + 1 ≤ (k + 1) by omega) hnc
    rw [if_pos rfl, Nat.sub_self] at d5
    rw [← List.map_take] at t5
    rw [← List.map_drop] at d5
    have hjn := joined2_any _ A A k 0 (k + 1) 0 2 (l.take k) (l.drop (k + 1)) (by omega) (by omega) (fun x hx => htx x (List.mem_of_mem_take hx)) (fun x hx => htx x (List.mem_of_mem_drop hx)) W5 rl5 t5 d5
    have hjn2 := hjn.mono (R' := fun en w' => ∃ Ao co, en = .returned (.slice Ao (k + 0) co) ∧ Below V4.heap.size V4 w' ∧ Hid (TwPost W5 (k + 0) (l.take k ++ l.drop (k + 1)) Ao co w')) (by rintro en w' ⟨Ao, co, h1, h2⟩; exact ⟨Ao, co, h1, b5.trans (h2.2.2.2.1.mono b5.size), Lib.hid h2⟩)
    clear hjn
    have gb5 := Lib.hid b5
    have gs5 := Lib.hid sz5
    rw [hW5] at hjn2
    have gW5 := Lib.hid hW5
    clear rl rl5 h5 t5 d5 hb5' htx hl1 rX h1 hA hA1 k4' b5 sz5 hW5
    go_region_held3 (fun w' => w'.cell? ⟨w.heap.size, 0, none⟩ = some (.int .i64 num) ∧ w'.cell? ⟨w.heap.size, 1, none⟩ = some (.int .i64 dn) ∧ w'.cell? ⟨w.heap.size, 2, none⟩ = some (.slice Xo q dco) ∧ w'.cell? ⟨w.heap.size, 3, none⟩ = some (.bool sp) ∧ w'.frozen? ⟨w.heap.size, 0, none⟩ = false ∧ w'.frozen? ⟨w.heap.size, 1, none⟩ = false ∧ w'.frozen? ⟨w.heap.size, 2, none⟩ = false ∧ w'.frozen? ⟨w.heap.size, 3, none⟩ = false) (first | exact SS _ (Below.drew (Below.refl _ _)) | exact SS _ ((Below.drew (Below.refl _ _)).alloc (Nat.le_refl _) _) | exact SS _ hb6 | exact SB _ (box4 kb3 _ _ _ _)) (first | (go_at_call 22; (with_reducible refine hjn2.mono ?_); rintro en w3 ⟨Ao, co, rfl, hb6, gtw⟩; have kb3 := gk4.out.below hb6 gk4.out.lt))
    have kU := SB _ (box4 kb3 (.int .i64 num) (.int .i64 dn) (.slice Xo q dco) (.bool sp))
    obtain ⟨u0, u1, u2, u3, _⟩ := kU
    go_wp2
    have hfin := take_end (W5 := W5) (num := num) (dn := dn) (sp := sp) gVV.out.1 gVV.out.2 gs5.out hb5 hb6 (by rw [gW5.out]; exact gtw.out) own4 hx1 hdo
    refine ⟨rfl, .tuple #[.slice Ao k co, .agg #[.int .i64 num, .int .i64 dn, .slice Xo q dco, .bool sp], .int .i64 0], ?_, hfin⟩
    simp [results, Try.f8, go_sem, u0, u1, u2, u3]
  obtain ⟨W5, hW5⟩ : ∃ W, W = (V4.alloc (.cells #[.slice A k c, .slice (A.map (·.add ((k + 1) * 4))) (n - (k + 1)) (c - (k + 1))] 22)).drew := ⟨_, rfl⟩
  have b5 : Below V4.heap.size V4 W5 := by rw [hW5]; exact Below.drew ((Below.refl _ _).alloc (Nat.le_refl _) _)
  have rl := reads_new V4 [.slice A k c, .slice (A.map (·.add ((k + 1) * 4))) (n - (k + 1)) (c - (k + 1))] 22 2 rfl
  have sz5 : W5.heap.size = V4.heap.size + 1 := by rw [hW5]; simp [World.drew]
  have rl5 : Reads W5 W5.heap.size 1 (some ⟨V4.heap.size, 0, none⟩) 2 [.slice A k c, .slice (A.map (·.add ((k + 1) * 4))) (n - (k + 1)) (c - (k + 1))] := by rw [sz5, hW5]; exact rl
  have hb5' := hb5.trans (b5.mono hb5.size)
  have h5 := (h1.below hb5').more hb5'.size
  have t5 := h5.take (show k ≤ n by omega)
  have d5 := h5.cut (show k + 1 ≤ n by omega) hnc
  rw [if_neg hck] at d5
  rw [← List.map_take] at t5
  rw [← List.map_drop] at d5
  have hjn := joined2_any _ A (A.map (·.add ((k + 1) * 4))) k (n - (k + 1)) c (c - (k + 1)) 2 (l.take k) (l.drop (k + 1)) (by omega) (by omega) (fun x hx => htx x (List.mem_of_mem_take hx)) (fun x hx => htx x (List.mem_of_mem_drop hx)) W5 rl5 t5 d5
  have hjn2 := hjn.mono (R' := fun en w' => ∃ Ao co, en = .returned (.slice Ao (k + (n - (k + 1))) co) ∧ Below V4.heap.size V4 w' ∧ Hid (TwPost W5 (k + (n - (k + 1))) (l.take k ++ l.drop (k + 1)) Ao co w')) (by rintro en w' ⟨Ao, co, h1, h2⟩; exact ⟨Ao, co, h1, b5.trans (h2.2.2.2.1.mono b5.size), Lib.hid h2⟩)
  clear hjn
  have gb5 := Lib.hid b5
  have gs5 := Lib.hid sz5
  rw [hW5] at hjn2
  have gW5 := Lib.hid hW5
  clear rl rl5 h5 t5 d5 hb5' htx hl1 rX h1 hA hA1 k4' b5 sz5 hW5
  go_region_held3 (fun w' => w'.cell? ⟨w.heap.size, 0, none⟩ = some (.int .i64 num) ∧ w'.cell? ⟨w.heap.size, 1, none⟩ = some (.int .i64 dn) ∧ w'.cell? ⟨w.heap.size, 2, none⟩ = some (.slice Xo q dco) ∧ w'.cell? ⟨w.heap.size, 3, none⟩ = some (.bool sp) ∧ w'.frozen? ⟨w.heap.size, 0, none⟩ = false ∧ w'.frozen? ⟨w.heap.size, 1, none⟩ = false ∧ w'.frozen? ⟨w.heap.size, 2, none⟩ = false ∧ w'.frozen? ⟨w.heap.size, 3, none⟩ = false) (first | exact SS _ (Below.drew (Below.refl _ _)) | exact SS _ ((Below.drew (Below.refl _ _)).alloc (Nat.le_refl _) _) | exact SS _ hb6 | exact SB _ (box4 kb3 _ _ _ _)) (first | (go_at_call 22; (with_reducible refine hjn2.mono ?_); rintro en w3 ⟨Ao, co, rfl, hb6, gtw⟩; have kb3 := gk4.out.below hb6 gk4.out.lt))
  have kU := SB _ (box4 kb3 (.int .i64 num) (.int .i64 dn) (.slice Xo q dco) (.bool sp))
  obtain ⟨u0, u1, u2, u3, _⟩ := kU
  go_wp2
  have hfin := take_end (W5 := W5) (num := num) (dn := dn) (sp := sp) gVV.out.1 gVV.out.2 gs5.out hb5 hb6 (by rw [gW5.out]; exact gtw.out) own4 hx1 hdo
  refine ⟨rfl, .tuple #[.slice Ao (k + (n - (k + 1))) co, .agg #[.int .i64 num, .int .i64 dn, .slice Xo q dco, .bool sp], .int .i64 0], ?_, hfin⟩
  simp [results, Try.f8, go_sem, u0, u1, u2, u3]
end Go.Proofs.Ytbiodoeimbfbnaa
