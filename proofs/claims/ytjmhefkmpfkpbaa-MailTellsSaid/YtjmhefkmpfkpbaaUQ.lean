/- Mail: ref10.content -/
import Derived.Test.YtjmhefkmpfkpbaaZUC
import Derived.Test.YtjmhefkmpfkpbaaZRefTakeO
import Derived.Test.YtjmhefkmpfkpbaaZPW
import Derived.Test.YtjmhefkmpfkpbaaZFS
namespace Go.Proofs.Ytjmhefkmpfkpbaa
open Go.ChangeShapes Go.WideShapes Go.ChangeAt Go.RowKit
set_option linter.unusedSimpArgs false
set_option linter.unusedVariables false
set_option maxRecDepth 100000
theorem infoU8q : (Try.prog.info? 5).map (fun i => (i.zero, i.size, i.bytes)) = some (some (.int .u8 0), 1, 1) := by kernel_rfl
theorem flat_oneq (x s : Nat) : flat [(x, s)] = digs x s := by rw [flat, flat, List.append_nil]
theorem total_oneq (x s : Nat) : total [(x, s)] = s := by simp [total]
theorem u8s_oneq (l : List Int) : ∀ u ∈ u8s l, u.oneCell' = true := fun u hu => by
  unfold u8s at hu
  obtain ⟨z, _, rfl⟩ := List.mem_map.1 hu
  rfl
/-- What stays while a content is written. -/
structure CnF (w0 : World) (o : MO) (P Z : Array Value) (w : World) : Prop where
  hB : Below w0.heap.size w0 w
  k1 : Blk w w0.heap.size 31 (mA o)
  k4 : Blk w (w0.heap.size + 1) 86 P
  k5 : Blk w (w0.heap.size + 2) 3 Z
def CnO (w0 : World) (ps : List (Nat × Nat)) (A : Option Addr) (c : Nat) (w : World) : Prop := w.ownsRow (w0.heap.size + 3) 5 1 (.slice A (total ps) c) (total ps) (u8s (flat ps))
theorem CnF.below {w0 w w' : World} {o : MO} {P Z : Array Value} (H : CnF w0 o P Z w) (hb : Below w.heap.size w w') : CnF w0 o P Z w' :=
  ⟨H.hB.trans (hb.mono H.hB.size), H.k1.below hb H.k1.lt, H.k4.below hb H.k4.lt, H.k5.below hb H.k5.lt⟩
theorem CnF.drew {w0 w : World} {o : MO} {P Z : Array Value} (H : CnF w0 o P Z w) : CnF w0 o P Z w.drew := ⟨H.hB.drew, H.k1.drew, H.k4.drew, H.k5.drew⟩
/-- append of what a callee has written. -/
theorem cn_run {w0 w : World} {o : MO} {P Z : Array Value} {ps qs : List (Nat × Nat)} {A A2 : Option Addr} {c k2 c2 : Nat} {op : Oper} {a : Act} {x y : Nat} {n : Nat} {l : List (Nat × Value)} (S : Sx a n l) (H : CnF w0 o P Z w) (ow : CnO w0 ps A c w) (hr : Reads w w.heap.size 1 A2 k2 (u8s (flat qs))) (hk : total qs = k2) (hm : total ps + total qs ≤ 100000)
    (ho : op.op = .call { callee := .builtin .append, args := #[.tmp x, .tmp y], argTypes := #[34, 34] }) (hx : l.lookup x = some (gv true (.slice A (total ps) c))) (hy : l.lookup y = some (gv true (.slice A2 k2 c2))) :
    ∃ A' c' w', (execOp a.eval op).run Try.prog w = .ok (.value (.slice A' (total (ps ++ qs)) c')) w' ∧ CnF w0 o P Z w' ∧ CnO w0 (ps ++ qs) A' c' w' := by
  obtain ⟨i0, hi0, hz0, hz1, hz2⟩ := info_parts infoU8q
  have hz := H.k5.lt
  have hs := H.hB.size
  subst hk
  obtain ⟨v', w', hrun, h2, h3, h4⟩ := run_append_any (P := Try.prog) w (w0.heap.size + 3) 34 op.type 5 i0 _ 1 1 Try.underlying34 hi0 hz0 hz1 hz2 rfl (by omega) (.slice A (total ps) c) (total ps) (u8s (flat ps)) ow w.heap.size A2 (total qs) c2 (u8s (flat qs)) hr (u8s_oneq _) (by unfold maxLen; omega) (by omega) (by omega)
  have e1 : a.eval (.tmp x) = .slice A (total ps) c := S.fx _ _ hx
  have e2 : a.eval (.tmp y) = .slice A2 (total qs) c2 := S.fx _ _ hy
  have hob : ∀ b, b < w0.heap.size + 3 → some b ≠ (Value.slice A (total ps) c).ownBlock := fun b hb e => by have := own_base ow e.symm; omega
  have h5 : w'.ownsRow (w0.heap.size + 3) 5 1 v' (total (ps ++ qs)) (u8s (flat (ps ++ qs))) := by
    rw [total_app, flat_app]
    simpa [u8s] using h2
  obtain ⟨A', c', rfl, _, _⟩ := own_slice h5
  refine ⟨A', c', w', ?_, ⟨H.hB.grown h3 (by omega) (fun k hk => by have := own_base ow hk; omega), H.k1.grown h3 (hob _ (by omega)), H.k4.grown h3 (hob _ (by omega)), H.k5.grown h3 (hob _ (by omega))⟩, h5⟩
  unfold execOp
  simp only [ho, resolve, invoke, builtin, Sem.run_bind, Sem.run_pure, Result.andThen_ok, List.map_toArray, List.map_cons, List.map_nil, e1, e2, hrun]
section
variable {w0 w : World} {o : MO} {P Z : Array Value} {ps qs : List (Nat × Nat)} {A A2 : Option Addr} {c k2 c2 : Nat} {op : Oper} {a : Act} {x y d : Nat} {n : Nat} {l : List (Nat × Value)} {ops : Array Oper} {Q : Exit → Act → World → Prop} {md : Region.Mode} {fuel : Nat} {L : Array Bool} {rest : List Oper}
theorem cnA (S : Sx a n l) (H : CnF w0 o P Z w) (ow : CnO w0 ps A c w) (hr : Reads w w.heap.size 1 A2 k2 (u8s (flat qs))) (hk : total qs = k2) (hm : total ps + total qs ≤ 100000)
    (ho : op.op = .call { callee := .builtin .append, args := #[.tmp x, .tmp y], argTypes := #[34, 34] }) (hx : l.lookup x = some (gv true (.slice A (total ps) c))) (hy : l.lookup y = some (gv true (.slice A2 k2 c2)))
    (h : ∀ (a' : Act) (w' : World) (A' : Option Addr) (c' : Nat), Sx a' n ((d, gv true (.slice A' (total (ps ++ qs)) c')) :: l) → CnF w0 o P Z w' → CnO w0 (ps ++ qs) A' c' w' → wpAnyH Try.prog md ops Q (CnF w0 o P Z) fuel L a' w')
    (hd : op.dst = some d := by rfl) (hg : op.guard = none := by rfl) (hn : d < n := by decide) :
    ∀ K' : Act → World → Prop, Shut (∀ a w, CnF w0 o P Z w → (CnF w0 o P Z w → wpAnyH Try.prog md ops Q (CnF w0 o P Z) fuel L a w) → K' a w) → if Region.wanted op (yielded ops a.tmps) = true then Oper.wp Try.prog op a w K' Q else K' (a.put op.dst undef) w := fun K' hK => by
  obtain ⟨A', c', w', hrun, h2, h3⟩ := cn_run S H ow hr hk hm ho hx hy
  rw [if_pos (wantN hg _)]
  unfold Oper.wp
  rw [hrun]
  show K' (a.put op.dst _) w'
  rw [hd]
  exact hK.out _ _ h2 (fun h2 => h _ _ A' c' (S.put _ hn) h2 h3)
theorem cnB (S : Sx a n l) (H : CnF w0 o P Z w) (ow : CnO w0 ps A c w) (hr : Reads w w.heap.size 1 A2 k2 (u8s (flat qs))) (hk : total qs = k2) (hm : total ps + total qs ≤ 100000)
    (ho : op.op = .call { callee := .builtin .append, args := #[.tmp x, .tmp y], argTypes := #[34, 34] }) (hx : l.lookup x = some (gv true (.slice A (total ps) c))) (hy : l.lookup y = some (gv true (.slice A2 k2 c2)))
    (h : ∀ (a' : Act) (w' : World) (A' : Option Addr) (c' : Nat), Sx a' n ((d, gv true (.slice A' (total (ps ++ qs)) c')) :: l) → CnF w0 o P Z w' → CnO w0 (ps ++ qs) A' c' w' → wpList Try.prog ops Q rest a' w')
    (hd : op.dst = some d := by rfl) (hg : op.guard = none := by rfl) (hn : d < n := by decide) : wpList Try.prog ops Q (op :: rest) a w := by
  obtain ⟨A', c', w', hrun, h2, h3⟩ := cn_run S H ow hr hk hm ho hx hy
  exact sxW S _ w' (wantN hg _) hrun (fun a S => h a w' A' c' S h2 h3) hd hn
end
theorem rdig (x s : Nat) (v j : Int) (hv : v = (x : Int)) (hj : j = (s : Int)) (hx : x < 18446744073709551616) (hs : s ≤ 8) (w : World) : Calls Try.prog 88 #[.int .u64 v, .int .i64 j] w fun en w' => ∃ p : Option Addr × Nat, en = .returned (.slice p.1 s p.2) ∧ Reads w' w'.heap.size 1 p.1 s (u8s (flat [(x, s)])) ∧ Below w.heap.size w w' := by
  subst hv hj
  refine (rdigitsT x s hx hs w).mono fun en w' ⟨A, c, h1, h2, h3⟩ => ⟨(A, c), h1, ?_, h3⟩
  rw [flat_oneq]
  exact Reads.of_own h2
theorem rtxt (d : Dy) (hd : mayd d = true) (hl : ∀ x ∈ d.ls, x < 4294967296) (X : Option Addr) (n c : Nat) (hn : n = d.ls.length) (w : World) (hr : Reads w w.heap.size 1 X n (ints .u32 d.ls)) : Calls Try.prog 89 #[.agg #[.bool d.neg, .slice X n c, .int .i64 d.ex]] w fun en w' => ∃ p : Option Addr × Nat, en = .returned (.slice p.1 (total (ptD d)) p.2) ∧ Reads w' w'.heap.size 1 p.1 (total (ptD d)) (u8s (flat (ptD d))) ∧ Below w.heap.size w w' := by
  subst hn
  have hx := mayd_ex hd
  have hm := mayd_len hd
  obtain ⟨ng, ls, ex⟩ := d
  simp only at hx hm hl hr
  obtain ⟨e, rfl⟩ : ∃ e : Nat, ex = (e : Int) := ⟨ex.toNat, by omega⟩
  refine (rtext_any ng X ls.length c (ls.map Int.ofNat) (by simp) (by omega) (fun x hx => by obtain ⟨y, _, rfl⟩ := List.mem_map.1 hx; exact Int.natCast_nonneg y) (fun x hx => by obtain ⟨y, hy, rfl⟩ := List.mem_map.1 hx; have := hl y hy; show (y : Int) < _; omega) e (by omega) w (by have e : u32s (ls.map Int.ofNat) = ints .u32 ls := (by unfold u32s ints; rw [List.map_map]; rfl); rw [e]; exact hr)).mono fun en w' ⟨A, c', h1, h2, h3⟩ => ⟨(A, c'), ?_, ?_, h3⟩
  · rw [ptD_total]
    exact h1
  · rw [ptD_total]
    exact Reads.of_own h2
def thP (m : Ml) : List (Nat × Nat) := if m.kd = 3 ∨ m.kd = 4 then hdP m ++ [(m.ab.toNat, 3)] else hdP m
/-- What a content answers. -/
def CtP (m : Ml) (w : World) (en : Ending) (w' : World) : Prop := ∃ X cc, en = .returned (.slice X (total (conP m)) cc) ∧ w'.ownsRow w.heap.size 5 1 (.slice X (total (conP m)) cc) (total (conP m)) (u8s (flat (conP m))) ∧ Below w.heap.size w w'
theorem hd_take (m : Ml) (i : Nat) : total ((hdP m).take i) ≤ 7 := by
  rcases (show i = 0 ∨ i = 1 ∨ i = 2 ∨ i = 3 ∨ 4 ≤ i by omega) with rfl | rfl | rfl | rfl | h
  all_goals first
    | (rw [List.take_of_length_le (by exact h)]; simp [hdP, total])
    | simp [hdP, total]
theorem hd_snoc {m : Ml} {i : Nat} {p : Nat × Nat} (h : (hdP m)[i]? = some p) : (hdP m).take (i + 1) = (hdP m).take i ++ [p] := by
  rw [List.take_add_one, h]; rfl
theorem run4 {P : Program} {w : World} {a : Act} {n : Nat} {l : List (Nat × Value)} {op : Oper} {v1 v2 v3 v4 : Value} {res : Result Next} (t1 t2 t3 t4 : Nat) (S : Sx a n l) (h1 : l.lookup t1 = some (gv true v1)) (h2 : l.lookup t2 = some (gv true v2)) (h3 : l.lookup t3 = some (gv true v3)) (h4 : l.lookup t4 = some (gv true v4))
    (h : ∀ ev : Operand → Value, ev (.tmp t1) = v1 → ev (.tmp t2) = v2 → ev (.tmp t3) = v3 → ev (.tmp t4) = v4 → (execOp ev op).run P w = res) : (execOp a.eval op).run P w = res := h _ (S.fx _ _ h1) (S.fx _ _ h2) (S.fx _ _ h3) (S.fx _ _ h4)
theorem at_intsq {w : World} {B n k : Nat} {A : Option Addr} {l : List Nat} {K : IntKind} (hn : l.length = n) (hR : Reads w B 1 A n (ints K l)) (hk : k < n) : ∃ ad, A = some ad ∧ ad.block < B ∧ w.cell? (ad.add k) = some (.int K ((l.getD k 0 : Nat) : Int)) := by
  obtain ⟨ad, e, hb, hc⟩ := hR.2 (by omega)
  refine ⟨ad, e, hb, hc k _ ?_⟩
  unfold ints
  rw [List.getElem?_map, List.getElem?_eq_getElem (by omega), List.getD_eq_getElem?_getD, List.getElem?_eq_getElem (by omega)]
  rfl
set_option maxHeartbeats 32000000 in
theorem rcontent_any (o : MO) (hok : okL o.x) (hb : ltL o.x) (w0 : World) (hr : rdL w0 w0.heap.size o) : Calls Try.prog 66 #[aggL o] w0 (CtP o.x w0) := by
  obtain ⟨⟨k1, k2, ⟨n1, n2⟩, n3, n4, n5, n6, n7, n8⟩, hm, hd, he, hl, hu⟩ := hok
  obtain ⟨m0, m1, m2, m3⟩ := mayM_parts hm
  obtain ⟨hb0, hb1, hb2, hb3⟩ := hb.1
  obtain ⟨d1, d2⟩ := chkD_ok hd
  obtain ⟨e1, e2⟩ := mayE_ok he
  have f1 := badN_no n1
  have f2 := badN_no n2
  replace f1 := Lib.hid f1
  replace f2 := Lib.hid f2
  clear n1 n2 hu he hd hm
  change Calls Try.prog 66 #[.agg (mA o)] w0 _
  go_enter Try.func66, Try.ntmps66
  refine wp_abs (l := [(0, gv true (.agg (mA o)))]) 171 rfl rfl (allC rfl allN) ?_
  intro a S
  refine wp_seq (wp_region_lit ?_)
  refine sxW S (.pointer (some ⟨w0.heap.size, 0, none⟩)) (w0.alloc (.cells (mA o) 31)) (wantN rfl _) (runG 0 S rfl rfl (fun ev ec ef e => by go_simp; try rfl)) ?_; intro a S
  refine sx0 S (.slice none 0 0) (wantN rfl _) rfl (by decide) (fun _ => by go_simp; try rfl) ?_; intro a S
  have kk := Blk.new w0 31 (mA o)
  have hB := (Below.refl w0.heap.size w0).alloc (Nat.le_refl _) (.cells (mA o) 31)
  have s1 := World.size_alloc w0 (.cells (mA o) 31)
  obtain ⟨w1, hw⟩ : ∃ W, W = w0.alloc (.cells (mA o) 31) := ⟨_, rfl⟩
  rw [← hw] at kk hB s1 ⊢
  clear hw
  refine wpList_nil ?_
  show Code.wp _ _ _ _ _
  refine wp_seq (wp_region_lit ?_)
  refine sx0 S (.slice none 0 0) (wantN rfl _) rfl (by decide) (fun _ => by go_simp; try rfl) ?_; intro a S
  refine wpList_nil ?_
  show Code.wp _ _ _ _ _
  obtain ⟨u0, hu0⟩ : ∃ u : Nat, Hid (o.x.fr.toNat = u) := ⟨_, Lib.hid rfl⟩
  obtain ⟨u1, hu1⟩ : ∃ u : Nat, Hid (o.x.tt.toNat = u) := ⟨_, Lib.hid rfl⟩
  obtain ⟨u2, hu2⟩ : ∃ u : Nat, Hid (o.x.ep.toNat = u) := ⟨_, Lib.hid rfl⟩
  obtain ⟨u3, hu3⟩ : ∃ u : Nat, Hid (o.x.nu.toNat = u) := ⟨_, Lib.hid rfl⟩
  refine wp_seq (wp_region_lit ?_)
  refine qF (fun a S => ?_)
  refine qL kk (fun a S => ?_)
  have c11 : IntKind.u64.wrap o.x.fr = (u0 : Int) := by have := f1.out; have := hu0.out; rw [IntKind.wrap_u64]; omega
  refine sx1 10 S (.int .u64 (u0 : Int)) (wantN rfl _) rfl (fun _ => rfl) (fun ev ec e => by go_simp; try rfl) ?_; intro a S
  clear c11
  refine qF (fun a S => ?_)
  refine qL kk (fun a S => ?_)
  have c14 : IntKind.u64.wrap o.x.tt = (u1 : Int) := by have := f2.out; have := hu1.out; rw [IntKind.wrap_u64]; omega
  refine sx1 13 S (.int .u64 (u1 : Int)) (wantN rfl _) rfl (fun _ => rfl) (fun ev ec e => by go_simp; try rfl) ?_; intro a S
  clear c14
  refine qF (fun a S => ?_)
  refine qL kk (fun a S => ?_)
  have c17 : IntKind.u64.wrap o.x.ep = (u2 : Int) := by have := n3; have := hu2.out; rw [IntKind.wrap_u64]; omega
  refine sx1 16 S (.int .u64 (u2 : Int)) (wantN rfl _) rfl (fun _ => rfl) (fun ev ec e => by go_simp; try rfl) ?_; intro a S
  clear c17
  refine qF (fun a S => ?_)
  refine qL kk (fun a S => ?_)
  have c20 : IntKind.u64.wrap o.x.nu = (u3 : Int) := by have := n5; have := hu3.out; rw [IntKind.wrap_u64]; omega
  refine sx1 19 S (.int .u64 (u3 : Int)) (wantN rfl _) rfl (fun _ => rfl) (fun ev ec e => by go_simp; try rfl) ?_; intro a S
  clear c20
  refine sxW S (.slice (some ⟨w1.heap.size, 0, none⟩) 4 4) (w1.alloc (.cells #[.int .u64 (u0 : Int), .int .u64 (u1 : Int), .int .u64 (u2 : Int), .int .u64 (u3 : Int)] 86)) (wantN rfl _) (run4 11 14 17 20 S rfl rfl rfl rfl (fun ev b1 b2 b3 b4 => by go_simp; try simp)) ?_; intro a S
  refine qAs (fun a S => ?_)
  have k4 := Blk.new w1 86 #[.int .u64 (u0 : Int), .int .u64 (u1 : Int), .int .u64 (u2 : Int), .int .u64 (u3 : Int)]
  have s2 := World.size_alloc w1 (.cells #[.int .u64 (u0 : Int), .int .u64 (u1 : Int), .int .u64 (u2 : Int), .int .u64 (u3 : Int)] 86)
  have hb := (Below.refl w1.heap.size w1).alloc (Nat.le_refl _) (.cells #[.int .u64 (u0 : Int), .int .u64 (u1 : Int), .int .u64 (u2 : Int), .int .u64 (u3 : Int)] 86)
  obtain ⟨w2, hw⟩ : ∃ W, W = w1.alloc (.cells #[.int .u64 (u0 : Int), .int .u64 (u1 : Int), .int .u64 (u2 : Int), .int .u64 (u3 : Int)] 86) := ⟨_, rfl⟩
  rw [← hw] at k4 s2 hb ⊢
  clear hw
  replace kk := kk.below hb kk.lt
  replace hB := hB.trans (hb.mono hB.size)
  clear hb
  rw [s1] at k4 s2 S
  clear s1
  refine wpList_nil ?_
  show Code.wp _ _ _ _ _
  refine wp_seq (wp_region_lit ?_)
  refine sxW S (.slice (some ⟨w2.heap.size, 0, none⟩) 4 4) (w2.alloc (.cells #[.int .i64 1, .int .i64 1, .int .i64 2, .int .i64 3] 3)) (wantN rfl _) (by go_simp; try simp) ?_; intro a S
  refine qAs (fun a S => ?_)
  have k5 := Blk.new w2 3 #[.int .i64 1, .int .i64 1, .int .i64 2, .int .i64 3]
  have hb := (Below.refl w2.heap.size w2).alloc (Nat.le_refl _) (.cells #[.int .i64 1, .int .i64 1, .int .i64 2, .int .i64 3] 3)
  obtain ⟨w3, hw⟩ : ∃ W, W = w2.alloc (.cells #[.int .i64 1, .int .i64 1, .int .i64 2, .int .i64 3] 3) := ⟨_, rfl⟩
  rw [← hw] at k5 hb ⊢
  clear hw
  replace kk := kk.below hb kk.lt
  replace k4 := k4.below hb k4.lt
  replace hB := hB.trans (hb.mono hB.size)
  clear hb
  rw [s2] at k5 S
  clear s2
  have H : CnF w0 o #[.int .u64 (u0 : Int), .int .u64 (u1 : Int), .int .u64 (u2 : Int), .int .u64 (u3 : Int)] #[.int .i64 1, .int .i64 1, .int .i64 2, .int .i64 3] w3 := ⟨hB, kk, k4, k5⟩
  have hP : ∀ i, i < 4 → ∃ x s : Nat, (hdP o.x)[i]? = some (x, s) ∧ (#[.int .u64 (u0 : Int), .int .u64 (u1 : Int), .int .u64 (u2 : Int), .int .u64 (u3 : Int)] : Array Value)[i]? = some (.int .u64 (x : Int)) ∧ (#[.int .i64 1, .int .i64 1, .int .i64 2, .int .i64 3] : Array Value)[i]? = some (.int .i64 (s : Int)) ∧ x < 18446744073709551616 ∧ s ≤ 3 := by
    have := f1.out
    have := f2.out
    have g0 := hu0.out
    have g1 := hu1.out
    have g2 := hu2.out
    have g3 := hu3.out
    intro i hi
    rcases (show i = 0 ∨ i = 1 ∨ i = 2 ∨ i = 3 by omega) with rfl | rfl | rfl | rfl
    · exact ⟨u0, 1, by rw [← g0]; rfl, rfl, rfl, by omega, by omega⟩
    · exact ⟨u1, 1, by rw [← g1]; rfl, rfl, rfl, by omega, by omega⟩
    · exact ⟨u2, 2, by rw [← g2]; rfl, rfl, rfl, by omega, by omega⟩
    · exact ⟨u3, 3, by rw [← g3]; rfl, rfl, rfl, by omega, by omega⟩
  obtain ⟨P, hPe⟩ : ∃ P : Array Value, P = #[.int .u64 (u0 : Int), .int .u64 (u1 : Int), .int .u64 (u2 : Int), .int .u64 (u3 : Int)] := ⟨_, rfl⟩
  obtain ⟨Z, hZe⟩ : ∃ Z : Array Value, Z = #[.int .i64 1, .int .i64 1, .int .i64 2, .int .i64 3] := ⟨_, rfl⟩
  rw [← hPe, ← hZe] at H hP
  clear hPe hZe kk k4 k5 hB
  refine wpList_nil ?_
  show Code.wp _ _ _ _ _
  refine wp_join (fun a wx => ∃ A c, Sx a 171 [(3, gv true (.slice A (total (hdP o.x)) c)), (1, gv true (.pointer (some ⟨w0.heap.size, 0, none⟩)))] ∧ CnF w0 o P Z wx ∧ CnO w0 (hdP o.x) A c wx) ?_ (fun a w ⟨A, c, S, H, ow⟩ => ?_)
  · refine wp_seq (wp_region_lit ?_)
    refine sx0 S (.int .i64 ((0 : Nat) : Int)) (wantN rfl _) rfl (by decide) (fun _ => by go_simp; try rfl) ?_; intro a S
    refine wpList_nil ?_
    show Code.wp _ _ _ _ _
    refine wp_block ?_
    refine wp_loop_ghost (fun k a wx => ∃ (i : Nat) (A : Option Addr) (c : Nat), k = 4 - i ∧ i ≤ 4 ∧ Sx a 171 [(6, gv true (.int .i64 (i : Int))), (3, gv true (.slice A (total ((hdP o.x).take i)) c)), (1, gv true (.pointer (some ⟨w0.heap.size, 0, none⟩))), (4, gv true (.slice (some ⟨w0.heap.size + 1, 0, none⟩) 4 4)), (5, gv true (.slice (some ⟨w0.heap.size + 2, 0, none⟩) 4 4))] ∧ CnF w0 o P Z wx ∧ CnO w0 ((hdP o.x).take i) A c wx) 4 ⟨0, none, 0, rfl, by omega, S.sub (allC rfl (allC rfl (allC rfl (allC rfl (allC rfl allN))))), H, own_nil (c := 0)⟩ ?_
    rintro k a w ⟨i, A, c, rfl, hi4, S, H, ow⟩
    refine wp_seq (wp_seq (wp_region_lit ?_))
    refine qMv (fun a S => ?_)
    refine qLss (fun a S => ?_)
    refine wpList_nil ?_
    show Code.wp _ _ _ _ _
    refine wp_cond_split (S.fx 24 _ rfl) (fun ht => ?_) (fun hf => ?_)
    · have hlt : i < 4 := by have := of_decide_eq_true ht; omega
      obtain ⟨x, s, q1, q2, q3, q4, q5⟩ := hP i hlt
      replace S : Sx a 171 [(6, gv true (.int .i64 (i : Int))), (3, gv true (.slice A (total ((hdP o.x).take i)) c)), (1, gv true (.pointer (some ⟨w0.heap.size, 0, none⟩))), (4, gv true (.slice (some ⟨w0.heap.size + 1, 0, none⟩) 4 4)), (5, gv true (.slice (some ⟨w0.heap.size + 2, 0, none⟩) 4 4))] := S.sub (allC rfl (allC rfl (allC rfl (allC rfl (allC rfl allN)))))
      have i1 : (0 : Int) ≤ i := by omega
      have i2 : (i : Int) < 4 := by omega
      refine wp_skip ?_
      show Code.wp _ _ _ _ _
      refine wp_seq (wp_block ?_)
      refine wp_region_noPanic ?_
      refine wp_region_held_drew (S := CnF w0 o P Z) (by kernel_rfl) H.drew (fun H => ?_)
      replace ow : CnO w0 _ A c w.drew := ow
      refine hx1 3 S (.slice A (total ((hdP o.x).take i)) c) (i := 0) rfl rfl (fun w' hw ev ec e => by go_simp; try rfl) H ?_ (by kernel_rfl) (by kernel_rfl) (by kernel_rfl)
      intro a S
      refine hx1 4 S (.slice (some ⟨w0.heap.size + 1, 0, none⟩) 4 4) (i := 1) rfl rfl (fun w' hw ev ec e => by go_simp; try rfl) H ?_ (by kernel_rfl) (by kernel_rfl) (by kernel_rfl)
      intro a S
      refine hx1 6 S (.int .i64 (i : Int)) (i := 2) rfl rfl (fun w' hw ev ec e => by go_simp; try rfl) H ?_ (by kernel_rfl) (by kernel_rfl) (by kernel_rfl)
      intro a S
      refine hx2 28 29 S (.pointer (some ⟨w0.heap.size + 1, i, none⟩)) (i := 3) rfl rfl rfl rfl (fun w' hw ev ec e e2 => by have := add_mkq (w0.heap.size + 1) i; go_simp; try rfl) H ?_ (by kernel_rfl) (by kernel_rfl) (by kernel_rfl)
      intro a S
      refine hx1 30 S (.int .u64 (x : Int)) (i := 4) rfl rfl (fun w' hw ev ec e => by have s0 := (hw.k4.cell i).trans q2; go_simp; try rfl) H ?_ (by kernel_rfl) (by kernel_rfl) (by kernel_rfl)
      intro a S
      refine hx1 5 S (.slice (some ⟨w0.heap.size + 2, 0, none⟩) 4 4) (i := 5) rfl rfl (fun w' hw ev ec e => by go_simp; try rfl) H ?_ (by kernel_rfl) (by kernel_rfl) (by kernel_rfl)
      intro a S
      refine hx1 6 S (.int .i64 (i : Int)) (i := 6) rfl rfl (fun w' hw ev ec e => by go_simp; try rfl) H ?_ (by kernel_rfl) (by kernel_rfl) (by kernel_rfl)
      intro a S
      refine hx2 32 33 S (.pointer (some ⟨w0.heap.size + 2, i, none⟩)) (i := 7) rfl rfl rfl rfl (fun w' hw ev ec e e2 => by have := add_mkq (w0.heap.size + 2) i; go_simp; try rfl) H ?_ (by kernel_rfl) (by kernel_rfl) (by kernel_rfl)
      intro a S
      refine hx1 34 S (.int .i64 (s : Int)) (i := 8) rfl rfl (fun w' hw ev ec e => by have s0 := (hw.k5.cell i).trans q3; go_simp; try rfl) H ?_ (by kernel_rfl) (by kernel_rfl) (by kernel_rfl)
      intro a S
      refine wpAnyH_ready (rs := [9]) (by kernel_rfl) (by simp) (AllReadyH.cons rfl ?_ AllReadyH.nil)
      refine hKG (fun p : Option Addr × Nat => .slice p.1 s p.2) (none, 0) S 88 #[.int .u64 (x : Int), .int .i64 (s : Int)] (fun p w' => Reads w' w'.heap.size 1 p.1 s (u8s (flat [(x, s)])) ∧ Below w.drew.heap.size w.drew w') (wantN rfl _) H (fun _ => runG2 31 35 S rfl rfl (fun ev ec ef e e2 => by go_simp; try rfl)) (fun _ => rdig x s _ _ rfl rfl q4 (by omega) w.drew) (fun p w' hh => H.below hh.2) ?_
      intro a w1 ⟨X1, cc1⟩ hr1 H S
      replace hr1 := hr1 rfl
      replace ow := own_below ow hr1.2
      refine wpAnyH_ready (rs := [10]) (by kernel_rfl) (by simp) (AllReadyH.cons rfl ?_ AllReadyH.nil)
      refine cnA (qs := [(x, s)]) S H ow hr1.1 (total_oneq x s) (by rw [total_oneq]; have := hd_take o.x i; omega) rfl rfl rfl (fun a w2 A2 c2 S H ow => ?_)
      refine hx1 37 S (.slice A2 (total ((hdP o.x).take i ++ [(x, s)])) c2) (i := 11) rfl rfl (fun w' hw ev ec e => by go_simp; try rfl) H ?_ (by kernel_rfl) (by kernel_rfl) (by kernel_rfl)
      intro a S
      refine wpAnyH_done (by kernel_rfl) ?_ _
      refine NoPanic.normal ?_
      show Code.wp _ _ _ _ _
      have hx := hd_snoc q1
      refine wp_region_lit ?_
      refine qMv (fun a S => ?_)
      refine sx1 25 S (.int .i64 ((i + 1 : Nat) : Int)) (wantN rfl _) rfl (fun _ => rfl) (fun ev ec e => by have hw : IntKind.i64.wrap ((i : Int) + 1) = ((i + 1 : Nat) : Int) := IntWalk.i64_in _ (by omega); go_simp; try rfl) ?_; intro a S
      refine qAs (fun a S => ?_)
      refine wpList_nil ?_
      show ∃ n', _
      rw [← hx] at S ow
      exact ⟨4 - (i + 1), by omega, i + 1, _, _, rfl, by omega, S.sub (allC rfl (allC rfl (allC rfl (allC rfl (allC rfl allN))))), H, ow⟩
    · obtain rfl : i = 4 := by have := of_decide_eq_false hf; omega
      refine wp_exit ?_
      refine then_exit (then_exit (inBlock_exit ?_))
      show ∃ A c, _
      exact ⟨A, c, S.sub (allC rfl (allC rfl allN)), H, ow⟩
  have lens : total (hdP o.x) = 7 ∧ total (ptD o.x.give.s) ≤ 164 ∧ total (ptD o.x.give.w) ≤ 164 ∧ total (ptD o.x.give.c) ≤ 164 ∧ total (ptD o.x.give.a) ≤ 164 := by
    have l0 := mayd_len m0
    have l1 := mayd_len m1
    have l2 := mayd_len m2
    have l3 := mayd_len m3
    rw [ptD_total, ptD_total, ptD_total, ptD_total]
    exact ⟨rfl, by omega, by omega, by omega, by omega⟩
  obtain ⟨⟨⟨_, _, _, _, r0⟩, ⟨_, _, _, _, r1⟩, ⟨_, _, _, _, r2⟩, ⟨_, _, _, _, r3⟩⟩, rd, rl⟩ := hr
  refine wp_join (fun a wx => ∃ A c, Sx a 171 [(3, gv true (.slice A (total (thP o.x)) c)), (1, gv true (.pointer (some ⟨w0.heap.size, 0, none⟩)))] ∧ CnF w0 o P Z wx ∧ CnO w0 (thP o.x) A c wx) ?_ (fun a w ⟨A, c, S, H, ow⟩ => ?_)
  · refine wp_seq (wp_region_lit ?_)
    repeat (first | refine qMv (fun a S => ?_) | refine qOr (fun a S => ?_) | refine qF (fun a S => ?_) | refine qL H.k1 (fun a S => ?_) | refine qEql (fun a S => ?_) | refine qAs (fun a S => ?_))
    refine wpList_nil ?_
    show Code.wp _ _ _ _ _
    refine wp_cond_split (S.fx 45 _ rfl) (fun ht => ?_) (fun hf => ?_)
    · have hk : o.x.kd = 3 ∨ o.x.kd = 4 := by simpa using ht
      replace S : Sx a 171 [(3, gv true (.slice A (total (hdP o.x)) c)), (1, gv true (.pointer (some ⟨w0.heap.size, 0, none⟩)))] := S.sub (allC rfl (allC rfl allN))
      have e3 : thP o.x = hdP o.x ++ [(o.x.ab.toNat, 3)] := if_pos hk
      rw [e3]
      obtain ⟨ua, hua⟩ : ∃ u : Nat, Hid (o.x.ab.toNat = u) := ⟨_, Lib.hid rfl⟩
      rw [hua.out]
      replace hk := Lib.hid hk
      clear e3
      refine wp_region_lit ?_
      refine qMv (fun a S => ?_)
      refine qF (fun a S => ?_)
      refine qL H.k1 (fun a S => ?_)
      have c9 : IntKind.u64.wrap o.x.ab = (ua : Int) := by have := hua.out; rw [IntKind.wrap_u64]; omega
      refine sx1 48 S (.int .u64 (ua : Int)) (wantN rfl _) rfl (fun _ => rfl) (fun ev ec e => by go_simp; try rfl) ?_; intro a S
      refine sxKA S 88 #[.int .u64 (ua : Int), .int .i64 3] (fun u w' => ∃ p : Option Addr × Nat, u = .slice p.1 3 p.2 ∧ Reads w' w'.heap.size 1 p.1 3 (u8s (flat [(ua, 3)])) ∧ Below w.heap.size w w') (runG 49 S rfl rfl (fun ev ec ef e => by go_simp; try rfl)) ((rdig ua 3 _ _ rfl rfl (by have := hua.out; omega) (by decide) w).mono (fun en w' ⟨p, h1, h2, h3⟩ => ⟨_, h1, p, rfl, h2, h3⟩)) ?_
      rintro a w1 u ⟨⟨X1, cc1⟩, rfl, h1, h2⟩ S
      refine cnB (qs := [(ua, 3)]) S (H.below h2) (own_below ow h2) h1 (total_oneq _ _) (by rw [total_oneq]; have := lens; omega) rfl rfl rfl (fun a w A c S H ow => ?_)
      refine qAs (fun a S => ?_)
      refine wpList_nil ?_
      show ∃ A c, _
      exact ⟨A, c, S.sub (allC rfl (allC rfl allN)), H, ow⟩
    · have e3 : thP o.x = hdP o.x := if_neg (by simpa using hf)
      rw [e3]
      refine wp_skip ?_
      show ∃ A c, _
      exact ⟨A, c, S.sub (allC rfl (allC rfl allN)), H, ow⟩
  have lth : total (thP o.x) ≤ 10 := by
    unfold thP
    split
    · rw [total_app, total_oneq]; have := lens.1; omega
    · have := lens.1; omega
  refine wp_join (fun a wx => ∃ A c, Sx a 171 [(3, gv true (.slice A (total (conP o.x)) c))] ∧ CnF w0 o P Z wx ∧ CnO w0 (conP o.x) A c wx) ?_ (fun a w ⟨A, c, S, H, ow⟩ => ?_)
  · refine wp_seq (wp_region_lit ?_)
    repeat (first | refine qMv (fun a S => ?_) | refine qOr (fun a S => ?_) | refine qF (fun a S => ?_) | refine qL H.k1 (fun a S => ?_) | refine qEql (fun a S => ?_) | refine qAs (fun a S => ?_))
    refine wpList_nil ?_
    show Code.wp _ _ _ _ _
    refine wp_block ?_
    refine wp_seq (wp_region_lit ?_)
    repeat (first | refine qMv (fun a S => ?_) | refine qOr (fun a S => ?_) | refine qF (fun a S => ?_) | refine qL H.k1 (fun a S => ?_) | refine qEql (fun a S => ?_) | refine qAs (fun a S => ?_))
    refine wpList_nil ?_
    show Code.wp _ _ _ _ _
    refine wp_cond_split (S.fx 54 _ rfl) (fun ht => ?_) (fun h1 => ?_)
    · have hk : o.x.kd = 1 := by simpa using ht
      have ek : thP o.x ++ ptD o.x.give.s ++ ptD o.x.give.w = conP o.x := by unfold thP conP; rw [if_neg (by omega), if_pos hk, List.append_assoc]
      clear ht hk
      replace S : Sx a 171 [(3, gv true (.slice A (total (thP o.x)) c)), (1, gv true (.pointer (some ⟨w0.heap.size, 0, none⟩)))] := S.sub (allC rfl (allC rfl allN))
      refine wp_seq ?_
      refine wp_region_noPanic ?_
      refine wp_region_held_drew (S := CnF w0 o P Z) (by kernel_rfl) H.drew (fun H => ?_)
      replace ow : CnO w0 (thP o.x) A c w.drew := ow
      obtain ⟨w1, hw1⟩ : ∃ W, W = w.drew := ⟨_, rfl⟩
      rw [← hw1] at H ow ⊢
      clear hw1
      refine hx1 3 S (.slice A (total (thP o.x)) c) (i := 0) rfl rfl (fun w' hw ev ec e => by go_simp; try rfl) H ?_ (by kernel_rfl) (by kernel_rfl) (by kernel_rfl)
      intro a S
      refine hx1 1 S (.pointer (some ⟨w0.heap.size, 6, none⟩)) (i := 1) rfl rfl (fun w' hw ev ec e => by go_simp; try rfl) H ?_ (by kernel_rfl) (by kernel_rfl) (by kernel_rfl)
      intro a S
      refine hx1 57 S (.pointer (some ⟨w0.heap.size, 6, none⟩)) (i := 2) rfl rfl (fun w' hw ev ec e => by go_simp; try rfl) H ?_ (by kernel_rfl) (by kernel_rfl) (by kernel_rfl)
      intro a S
      refine hx1 58 S (.agg #[.bool o.x.give.s.neg, .slice o.X0 o.x.give.s.ls.length o.c0, .int .i64 o.x.give.s.ex]) (i := 3) rfl rfl (fun w' hw ev ec e => run_load_mid 24 _ rfl _ 6 e [.bool o.x.give.s.neg, .slice o.X0 o.x.give.s.ls.length o.c0, .int .i64 o.x.give.s.ex] _ (hw.k1.range 6 _ rfl) Try.underlying24 rfl (by kernel_rfl)) H ?_ (by kernel_rfl) (by kernel_rfl) (by kernel_rfl)
      intro a S
      refine hx1 1 S (.pointer (some ⟨w0.heap.size, 6, none⟩)) (i := 6) rfl rfl (fun w' hw ev ec e => by go_simp; try rfl) H ?_ (by kernel_rfl) (by kernel_rfl) (by kernel_rfl)
      intro a S
      refine hx1 62 S (.pointer (some ⟨w0.heap.size, 9, none⟩)) (i := 7) rfl rfl (fun w' hw ev ec e => by go_simp; try rfl) H ?_ (by kernel_rfl) (by kernel_rfl) (by kernel_rfl)
      intro a S
      refine hx1 63 S (.agg #[.bool o.x.give.w.neg, .slice o.X1 o.x.give.w.ls.length o.c1, .int .i64 o.x.give.w.ex]) (i := 8) rfl rfl (fun w' hw ev ec e => run_load_mid 24 _ rfl _ 9 e [.bool o.x.give.w.neg, .slice o.X1 o.x.give.w.ls.length o.c1, .int .i64 o.x.give.w.ex] _ (hw.k1.range 9 _ rfl) Try.underlying24 rfl (by kernel_rfl)) H ?_ (by kernel_rfl) (by kernel_rfl) (by kernel_rfl)
      intro a S
      refine wpAnyH_ready (rs := [4]) (by kernel_rfl) (by simp) (AllReadyH.cons rfl ?_ AllReadyH.nil)
      refine hKG (fun p : Option Addr × Nat => .slice p.1 (total (ptD o.x.give.s)) p.2) (none, 0) S 89 #[.agg #[.bool o.x.give.s.neg, .slice o.X0 o.x.give.s.ls.length o.c0, .int .i64 o.x.give.s.ex]] (fun p w' => Reads w' w'.heap.size 1 p.1 (total (ptD o.x.give.s)) (u8s (flat (ptD o.x.give.s))) ∧ Below w1.heap.size w1 w') (wantN rfl _) H (fun _ => runG 59 S rfl rfl (fun ev ec ef e => by go_simp; try rfl)) (fun _ => rtxt o.x.give.s m0 hb0 o.X0 _ o.c0 rfl w1 (((r0).below H.hB).more H.hB.size)) (fun p w' hh => H.below hh.2) ?_
      intro a w2 ⟨X1, cc1⟩ hr1 H S
      replace hr1 := hr1 rfl
      replace ow := own_below ow hr1.2
      refine wpAnyH_ready (rs := [5]) (by kernel_rfl) (by simp) (AllReadyH.cons rfl ?_ AllReadyH.nil)
      refine cnA (qs := ptD o.x.give.s) S H ow hr1.1 rfl (by have := lens; omega) rfl rfl rfl (fun a w3 A c S H ow => ?_)
      refine wpAnyH_ready (rs := [9]) (by kernel_rfl) (by simp) (AllReadyH.cons rfl ?_ AllReadyH.nil)
      refine hKG (fun p : Option Addr × Nat => .slice p.1 (total (ptD o.x.give.w)) p.2) (none, 0) S 89 #[.agg #[.bool o.x.give.w.neg, .slice o.X1 o.x.give.w.ls.length o.c1, .int .i64 o.x.give.w.ex]] (fun p w' => Reads w' w'.heap.size 1 p.1 (total (ptD o.x.give.w)) (u8s (flat (ptD o.x.give.w))) ∧ Below w3.heap.size w3 w') (wantN rfl _) H (fun _ => runG 64 S rfl rfl (fun ev ec ef e => by go_simp; try rfl)) (fun _ => rtxt o.x.give.w m1 hb1 o.X1 _ o.c1 rfl w3 (((r1).below H.hB).more H.hB.size)) (fun p w' hh => H.below hh.2) ?_
      intro a w4 ⟨X1, cc1⟩ hr2 H S
      replace hr2 := hr2 rfl
      replace ow := own_below ow hr2.2
      refine wpAnyH_ready (rs := [10]) (by kernel_rfl) (by simp) (AllReadyH.cons rfl ?_ AllReadyH.nil)
      refine cnA (qs := ptD o.x.give.w) S H ow hr2.1 rfl (by rw [total_app]; have := lens; omega) rfl rfl rfl (fun a w5 A c S H ow => ?_)
      refine hx1 66 S (.slice A (total (thP o.x ++ ptD o.x.give.s ++ ptD o.x.give.w)) c) (i := 11) rfl rfl (fun w' hw ev ec e => by go_simp; try rfl) H ?_ (by kernel_rfl) (by kernel_rfl) (by kernel_rfl)
      intro a S
      refine wpAnyH_done (by kernel_rfl) ?_ _
      refine NoPanic.normal ?_
      show Code.wp _ _ _ _ _
      refine wp_ret ?_
      show bodyPost _ _ _ .ret a _
      refine bodyPost_ret (v := .slice A (total (thP o.x ++ ptD o.x.give.s ++ ptD o.x.give.w)) c) ?_ S.df ?_
      · exact (results_tmp rfl _ _ _).trans (by rw [show a.tmps.getD 2 undef = _ from S.fx 2 _ rfl]; rfl)
      rw [show thP o.x ++ ptD o.x.give.s ++ ptD o.x.give.w = conP o.x from ek] at ow ⊢
      exact ⟨A, c, rfl, own_base_leU ow (by omega), H.hB⟩
    · refine wp_join (fun a wx => Sx a 171 [(67, gv true (.bool ((o.x.kd == 2) || (o.x.kd == 3)))), (3, gv true (.slice A (total (thP o.x)) c)), (1, gv true (.pointer (some ⟨w0.heap.size, 0, none⟩))), (53, gv true (.int .u8 o.x.kd))] ∧ CnF w0 o P Z wx ∧ CnO w0 (thP o.x) A c wx) ?_ (fun a w ⟨S, H, ow⟩ => ?_)
      · refine wp_seq (wp_region_lit ?_)
        repeat (first | refine qMv (fun a S => ?_) | refine qOr (fun a S => ?_) | refine qF (fun a S => ?_) | refine qL H.k1 (fun a S => ?_) | refine qEql (fun a S => ?_) | refine qAs (fun a S => ?_))
        refine wpList_nil ?_
        show Code.wp _ _ _ _ _
        refine wp_cond_split (S.fx 67 _ rfl) (fun ht => ?_) (fun hf => ?_)
        · refine wp_skip ?_
          show _ ∧ _
          rw [show ((o.x.kd == 2) || (o.x.kd == 3)) = (o.x.kd == 2) from by rw [ht]; rfl]
          exact ⟨S.sub (allC rfl (allC rfl (allC rfl (allC rfl allN)))), H, ow⟩
        · refine wp_region_lit ?_
          repeat (first | refine qMv (fun a S => ?_) | refine qOr (fun a S => ?_) | refine qF (fun a S => ?_) | refine qL H.k1 (fun a S => ?_) | refine qEql (fun a S => ?_) | refine qAs (fun a S => ?_))
          refine wpList_nil ?_
          show _ ∧ _
          rw [show ((o.x.kd == 2) || (o.x.kd == 3)) = (o.x.kd == 3) from by rw [hf]; rfl]
          exact ⟨S.sub (allC rfl (allC rfl (allC rfl (allC rfl allN)))), H, ow⟩
      refine wp_cond_split (S.fx 67 _ rfl) (fun ht => ?_) (fun h2 => ?_)
      · have hk : o.x.kd = 2 ∨ o.x.kd = 3 := by simpa using ht
        have ek : thP o.x ++ ptD o.x.give.c ++ ptD o.x.give.a = conP o.x := by
          unfold thP conP
          rcases hk with h | h <;> rw [h] <;> simp
        clear ht hk
        replace S : Sx a 171 [(3, gv true (.slice A (total (thP o.x)) c)), (1, gv true (.pointer (some ⟨w0.heap.size, 0, none⟩)))] := S.sub (allC rfl (allC rfl allN))
        refine wp_seq ?_
        refine wp_region_noPanic ?_
        refine wp_region_held_drew (S := CnF w0 o P Z) (by kernel_rfl) H.drew (fun H => ?_)
        replace ow : CnO w0 (thP o.x) A c w.drew := ow
        obtain ⟨w1, hw1⟩ : ∃ W, W = w.drew := ⟨_, rfl⟩
        rw [← hw1] at H ow ⊢
        clear hw1
        refine hx1 3 S (.slice A (total (thP o.x)) c) (i := 0) rfl rfl (fun w' hw ev ec e => by go_simp; try rfl) H ?_ (by kernel_rfl) (by kernel_rfl) (by kernel_rfl)
        intro a S
        refine hx1 1 S (.pointer (some ⟨w0.heap.size, 6, none⟩)) (i := 1) rfl rfl (fun w' hw ev ec e => by go_simp; try rfl) H ?_ (by kernel_rfl) (by kernel_rfl) (by kernel_rfl)
        intro a S
        refine hx1 71 S (.pointer (some ⟨w0.heap.size, 12, none⟩)) (i := 2) rfl rfl (fun w' hw ev ec e => by go_simp; try rfl) H ?_ (by kernel_rfl) (by kernel_rfl) (by kernel_rfl)
        intro a S
        refine hx1 72 S (.agg #[.bool o.x.give.c.neg, .slice o.X2 o.x.give.c.ls.length o.c2, .int .i64 o.x.give.c.ex]) (i := 3) rfl rfl (fun w' hw ev ec e => run_load_mid 24 _ rfl _ 12 e [.bool o.x.give.c.neg, .slice o.X2 o.x.give.c.ls.length o.c2, .int .i64 o.x.give.c.ex] _ (hw.k1.range 12 _ rfl) Try.underlying24 rfl (by kernel_rfl)) H ?_ (by kernel_rfl) (by kernel_rfl) (by kernel_rfl)
        intro a S
        refine hx1 1 S (.pointer (some ⟨w0.heap.size, 6, none⟩)) (i := 6) rfl rfl (fun w' hw ev ec e => by go_simp; try rfl) H ?_ (by kernel_rfl) (by kernel_rfl) (by kernel_rfl)
        intro a S
        refine hx1 76 S (.pointer (some ⟨w0.heap.size, 15, none⟩)) (i := 7) rfl rfl (fun w' hw ev ec e => by go_simp; try rfl) H ?_ (by kernel_rfl) (by kernel_rfl) (by kernel_rfl)
        intro a S
        refine hx1 77 S (.agg #[.bool o.x.give.a.neg, .slice o.X3 o.x.give.a.ls.length o.c3, .int .i64 o.x.give.a.ex]) (i := 8) rfl rfl (fun w' hw ev ec e => run_load_mid 24 _ rfl _ 15 e [.bool o.x.give.a.neg, .slice o.X3 o.x.give.a.ls.length o.c3, .int .i64 o.x.give.a.ex] _ (hw.k1.range 15 _ rfl) Try.underlying24 rfl (by kernel_rfl)) H ?_ (by kernel_rfl) (by kernel_rfl) (by kernel_rfl)
        intro a S
        refine wpAnyH_ready (rs := [4]) (by kernel_rfl) (by simp) (AllReadyH.cons rfl ?_ AllReadyH.nil)
        refine hKG (fun p : Option Addr × Nat => .slice p.1 (total (ptD o.x.give.c)) p.2) (none, 0) S 89 #[.agg #[.bool o.x.give.c.neg, .slice o.X2 o.x.give.c.ls.length o.c2, .int .i64 o.x.give.c.ex]] (fun p w' => Reads w' w'.heap.size 1 p.1 (total (ptD o.x.give.c)) (u8s (flat (ptD o.x.give.c))) ∧ Below w1.heap.size w1 w') (wantN rfl _) H (fun _ => runG 73 S rfl rfl (fun ev ec ef e => by go_simp; try rfl)) (fun _ => rtxt o.x.give.c m2 hb2 o.X2 _ o.c2 rfl w1 (((r2).below H.hB).more H.hB.size)) (fun p w' hh => H.below hh.2) ?_
        intro a w2 ⟨X1, cc1⟩ hr1 H S
        replace hr1 := hr1 rfl
        replace ow := own_below ow hr1.2
        refine wpAnyH_ready (rs := [5]) (by kernel_rfl) (by simp) (AllReadyH.cons rfl ?_ AllReadyH.nil)
        refine cnA (qs := ptD o.x.give.c) S H ow hr1.1 rfl (by have := lens; omega) rfl rfl rfl (fun a w3 A c S H ow => ?_)
        refine wpAnyH_ready (rs := [9]) (by kernel_rfl) (by simp) (AllReadyH.cons rfl ?_ AllReadyH.nil)
        refine hKG (fun p : Option Addr × Nat => .slice p.1 (total (ptD o.x.give.a)) p.2) (none, 0) S 89 #[.agg #[.bool o.x.give.a.neg, .slice o.X3 o.x.give.a.ls.length o.c3, .int .i64 o.x.give.a.ex]] (fun p w' => Reads w' w'.heap.size 1 p.1 (total (ptD o.x.give.a)) (u8s (flat (ptD o.x.give.a))) ∧ Below w3.heap.size w3 w') (wantN rfl _) H (fun _ => runG 78 S rfl rfl (fun ev ec ef e => by go_simp; try rfl)) (fun _ => rtxt o.x.give.a m3 hb3 o.X3 _ o.c3 rfl w3 (((r3).below H.hB).more H.hB.size)) (fun p w' hh => H.below hh.2) ?_
        intro a w4 ⟨X1, cc1⟩ hr2 H S
        replace hr2 := hr2 rfl
        replace ow := own_below ow hr2.2
        refine wpAnyH_ready (rs := [10]) (by kernel_rfl) (by simp) (AllReadyH.cons rfl ?_ AllReadyH.nil)
        refine cnA (qs := ptD o.x.give.a) S H ow hr2.1 rfl (by rw [total_app]; have := lens; omega) rfl rfl rfl (fun a w5 A c S H ow => ?_)
        refine hx1 80 S (.slice A (total (thP o.x ++ ptD o.x.give.c ++ ptD o.x.give.a)) c) (i := 11) rfl rfl (fun w' hw ev ec e => by go_simp; try rfl) H ?_ (by kernel_rfl) (by kernel_rfl) (by kernel_rfl)
        intro a S
        refine wpAnyH_done (by kernel_rfl) ?_ _
        refine NoPanic.normal ?_
        show Code.wp _ _ _ _ _
        refine wp_ret ?_
        show bodyPost _ _ _ .ret a _
        refine bodyPost_ret (v := .slice A (total (thP o.x ++ ptD o.x.give.c ++ ptD o.x.give.a)) c) ?_ S.df ?_
        · exact (results_tmp rfl _ _ _).trans (by rw [show a.tmps.getD 2 undef = _ from S.fx 2 _ rfl]; rfl)
        rw [show thP o.x ++ ptD o.x.give.c ++ ptD o.x.give.a = conP o.x from ek] at ow ⊢
        exact ⟨A, c, rfl, own_base_leU ow (by omega), H.hB⟩
      refine wp_seq (wp_region_lit ?_)
      repeat (first | refine qMv (fun a S => ?_) | refine qOr (fun a S => ?_) | refine qF (fun a S => ?_) | refine qL H.k1 (fun a S => ?_) | refine qEql (fun a S => ?_) | refine qAs (fun a S => ?_))
      refine wpList_nil ?_
      show Code.wp _ _ _ _ _
      refine wp_cond_split (S.fx 81 _ rfl) (fun ht => ?_) (fun h5 => ?_)
      · have hk := Lib.hid (show o.x.kd = 5 by simpa using ht)
        have et : thP o.x = hdP o.x := if_neg (by have := hk.out; omega)
        rw [et] at ow S
        clear et ht
        replace S : Sx a 171 [(3, gv true (.slice A (total (hdP o.x)) c)), (1, gv true (.pointer (some ⟨w0.heap.size, 0, none⟩)))] := S.sub (allC rfl (allC rfl allN))
        obtain ⟨N, hN⟩ : ∃ N : Nat, Hid (N = o.x.ds.length) := ⟨_, Lib.hid rfl⟩
        have hN64 : N ≤ 64 := by have := hN.out; omega
        have rdN : Tms w0 w0.heap.size o.D N o.x.ds := by rw [hN.out]; exact rd
        have dN : ∀ k, k < N → mayT (tz o.x.ds k) = true := fun k hk => d2 k (by have := hN.out; omega)
        have kD : ∀ w', CnF w0 o P Z w' → w'.cell? ⟨w0.heap.size, 19, none⟩ = some (.slice o.D N o.dc) := fun w' hw => by rw [hN.out]; exact hw.k1.cell 19
        refine wp_seq ?_
        refine wp_region_noPanic ?_
        refine wp_region_held_drew (S := CnF w0 o P Z) (by kernel_rfl) H.drew (fun H => ?_)
        replace ow : CnO w0 (hdP o.x) A c w.drew := ow
        obtain ⟨w1, hw1⟩ : ∃ W, W = w.drew := ⟨_, rfl⟩
        rw [← hw1] at H ow ⊢
        clear hw1
        refine hx1 3 S (.slice A (total (hdP o.x)) c) (i := 0) rfl rfl (fun w' hw ev ec e => by go_simp; try rfl) H ?_ (by kernel_rfl) (by kernel_rfl) (by kernel_rfl)
        intro a S
        refine hx1 1 S (.pointer (some ⟨w0.heap.size, 18, none⟩)) (i := 1) rfl rfl (fun w' hw ev ec e => by go_simp; try rfl) H ?_ (by kernel_rfl) (by kernel_rfl) (by kernel_rfl)
        intro a S
        refine hx1 84 S (.bool o.x.wa) (i := 2) rfl rfl (fun w' hw ev ec e => by have s0 := hw.k1.cell 18; go_simp; try rfl) H ?_ (by kernel_rfl) (by kernel_rfl) (by kernel_rfl)
        intro a S
        refine hx1 1 S (.pointer (some ⟨w0.heap.size, 19, none⟩)) (i := 6) rfl rfl (fun w' hw ev ec e => by go_simp; try rfl) H ?_ (by kernel_rfl) (by kernel_rfl) (by kernel_rfl)
        intro a S
        refine hx1 89 S (.slice o.D N o.dc) (i := 7) rfl rfl (fun w' hw ev ec e => by have s0 := kD w' hw; go_simp; try rfl) H ?_ (by kernel_rfl) (by kernel_rfl) (by kernel_rfl)
        intro a S
        refine hx1 90 S (.int .i64 (N : Int)) (i := 8) rfl rfl (fun w' hw ev ec e => by go_simp; try rfl) H ?_ (by kernel_rfl) (by kernel_rfl) (by kernel_rfl)
        intro a S
        have cx : IntKind.u64.wrap (N : Int) = ((N : Nat) : Int) := by skip; rw [IntKind.wrap_u64]; omega
        refine hx1 91 S (.int .u64 (N : Int)) (i := 9) rfl rfl (fun w' hw ev ec e => by go_simp; try rfl) H ?_ (by kernel_rfl) (by kernel_rfl) (by kernel_rfl)
        intro a S
        clear cx
        refine wpAnyH_ready (rs := [3]) (by kernel_rfl) (by simp) (AllReadyH.cons rfl ?_ AllReadyH.nil)
        refine hKG (fun _ : Unit => .int .u64 ((bP o.x.wa : Nat) : Int)) () S 90 #[.bool o.x.wa] (fun _ w' => Below w1.heap.size w1 w') (wantN rfl _) H (fun _ => runG 85 S rfl rfl (fun ev ec ef e => by go_simp; try rfl)) (fun _ => (rflag_any o.x.wa w1).mono (fun en w' ⟨h1, h2⟩ => ⟨(), by rw [h1]; unfold bP; cases o.x.wa <;> rfl, by rw [← h2]; exact Below.refl _ _⟩)) (fun p w' hh => H.below hh) ?_
        intro a w2 _ hr0 H S
        replace ow := own_below ow (hr0 rfl)
        have hbp : bP o.x.wa < 18446744073709551616 := by unfold bP; split <;> decide
        refine wpAnyH_ready (rs := [4]) (by kernel_rfl) (by simp) (AllReadyH.cons rfl ?_ AllReadyH.nil)
        refine hKG (fun p : Option Addr × Nat => .slice p.1 1 p.2) (none, 0) S 88 #[.int .u64 ((bP o.x.wa : Nat) : Int), .int .i64 1] (fun p w' => Reads w' w'.heap.size 1 p.1 1 (u8s (flat [(bP o.x.wa, 1)])) ∧ Below w2.heap.size w2 w') (wantN rfl _) H (fun _ => runG 86 S rfl rfl (fun ev ec ef e => by go_simp; try rfl)) (fun _ => rdig (bP o.x.wa) 1 _ _ rfl rfl hbp (by decide) w2) (fun p w' hh => H.below hh.2) ?_
        intro a w3 ⟨X1, cc1⟩ hr1 H S
        replace hr1 := hr1 rfl
        replace ow := own_below ow hr1.2
        refine wpAnyH_ready (rs := [5]) (by kernel_rfl) (by simp) (AllReadyH.cons rfl ?_ AllReadyH.nil)
        refine cnA (qs := [(bP o.x.wa, 1)]) S H ow hr1.1 (total_oneq _ _) (by rw [total_oneq]; have := lens; omega) rfl rfl rfl (fun a w4 A c S H ow => ?_)
        refine wpAnyH_ready (rs := [10]) (by kernel_rfl) (by simp) (AllReadyH.cons rfl ?_ AllReadyH.nil)
        refine hKG (fun p : Option Addr × Nat => .slice p.1 1 p.2) (none, 0) S 88 #[.int .u64 ((N : Nat) : Int), .int .i64 1] (fun p w' => Reads w' w'.heap.size 1 p.1 1 (u8s (flat [(N, 1)])) ∧ Below w4.heap.size w4 w') (wantN rfl _) H (fun _ => runG 92 S rfl rfl (fun ev ec ef e => by go_simp; try rfl)) (fun _ => rdig (N) 1 _ _ rfl rfl (by omega) (by decide) w4) (fun p w' hh => H.below hh.2) ?_
        intro a w5 ⟨X1, cc1⟩ hr2 H S
        replace hr2 := hr2 rfl
        replace ow := own_below ow hr2.2
        refine wpAnyH_ready (rs := [11]) (by kernel_rfl) (by simp) (AllReadyH.cons rfl ?_ AllReadyH.nil)
        refine cnA (qs := [(N, 1)]) S H ow hr2.1 (total_oneq _ _) (by rw [total_app, total_oneq, total_oneq]; have := lens; omega) rfl rfl rfl (fun a w6 A c S H ow => ?_)
        refine hx1 94 S (.slice A (total (hdP o.x ++ [(bP o.x.wa, 1)] ++ [(N, 1)])) c) (i := 12) rfl rfl (fun w' hw ev ec e => by go_simp; try rfl) H ?_ (by kernel_rfl) (by kernel_rfl) (by kernel_rfl)
        intro a S
        refine wpAnyH_done (by kernel_rfl) ?_ _
        refine NoPanic.normal ?_
        show Code.wp _ _ _ _ _
        refine wp_seq (wp_region_lit ?_)
        refine sx0 S (.int .i64 ((0 : Nat) : Int)) (wantN rfl _) rfl (by decide) (fun _ => by go_simp; try rfl) ?_; intro a S
        refine wpList_nil ?_
        show Code.wp _ _ _ _ _
        refine wp_block ?_
        have tQ : total (hdP o.x ++ [(bP o.x.wa, 1)] ++ [(N, 1)]) = 9 := by rw [total_app, total_app, total_oneq, total_oneq]; have := lens; omega
        refine wp_loop_ghost (fun g a wx => ∃ (k : Nat) (A : Option Addr) (c : Nat), g = N - k ∧ k ≤ N ∧ Sx a 171 [(7, gv true (.int .i64 (k : Int))), (3, gv true (.slice A (total ((hdP o.x ++ [(bP o.x.wa, 1)] ++ [(N, 1)]) ++ dsP (o.x.ds.take k))) c)), (1, gv true (.pointer (some ⟨w0.heap.size, 0, none⟩)))] ∧ CnF w0 o P Z wx ∧ CnO w0 ((hdP o.x ++ [(bP o.x.wa, 1)] ++ [(N, 1)]) ++ dsP (o.x.ds.take k)) A c wx) N ⟨0, A, c, rfl, by omega, by simpa [dsP] using (S.sub (allC rfl (allC rfl (allC rfl allN))) : Sx a 171 [(7, gv true (.int .i64 ((0 : Nat) : Int))), (3, gv true (.slice A (total (hdP o.x ++ [(bP o.x.wa, 1)] ++ [(N, 1)])) c)), (1, gv true (.pointer (some ⟨w0.heap.size, 0, none⟩)))]), H, by simpa [dsP] using ow⟩ ?_
        clear S H ow
        rintro g a w ⟨k, A, c, rfl, hkN, S, H, ow⟩
        refine wp_seq (wp_seq (wp_region_lit ?_))
        refine qMv (fun a S => ?_)
        refine qF (fun a S => ?_)
        refine sx1 96 S (.slice o.D N o.dc) (wantN rfl _) rfl (fun _ => rfl) (fun ev ec e => by have s0 := kD w H; go_simp; try rfl) ?_; intro a S
        refine qLen (fun a S => ?_)
        refine sx2 95 98 S (.bool (decide ((k : Int) < (N : Int)))) (wantN rfl _) rfl rfl (fun _ => rfl) (fun _ => rfl) (fun ev ec e e2 => by go_simp; try rfl) ?_; intro a S
        refine wpList_nil ?_
        show Code.wp _ _ _ _ _
        refine wp_cond_split (S.fx 99 _ rfl) (fun ht => ?_) (fun hf => ?_)
        · have hlt : k < N := by have := of_decide_eq_true ht; omega
          replace S : Sx a 171 [(7, gv true (.int .i64 (k : Int))), (3, gv true (.slice A (total ((hdP o.x ++ [(bP o.x.wa, 1)] ++ [(N, 1)]) ++ dsP (o.x.ds.take k))) c)), (1, gv true (.pointer (some ⟨w0.heap.size, 0, none⟩)))] := S.sub (allC rfl (allC rfl (allC rfl allN)))
          obtain ⟨ad, hA, hab, hcl⟩ := rdN.at_ hlt
          obtain ⟨⟨q0, q1⟩, q2, q3⟩ : ((0 ≤ (tz o.x.ds k).1 ∧ (tz o.x.ds k).1 < 8) ∧ 0 ≤ (tz o.x.ds k).2 ∧ (tz o.x.ds k).2 ≤ 2147483647) := by have := dN k hlt; unfold mayT at this; simpa [and_assoc] using this
          obtain ⟨z0, hz0⟩ : ∃ z : Nat, Hid (z = (tz o.x.ds k).1.toNat) := ⟨_, Lib.hid rfl⟩
          obtain ⟨z1, hz1⟩ : ∃ z : Nat, Hid (z = (tz o.x.ds k).2.toNat) := ⟨_, Lib.hid rfl⟩
          have v0 : (tz o.x.ds k).1 = (z0 : Int) := by have := hz0.out; omega
          have v1 : (tz o.x.ds k).2 = (z1 : Int) := by have := hz1.out; omega
          rw [v0, v1] at hcl
          have eD : dsP (o.x.ds.take (k + 1)) = dsP (o.x.ds.take k) ++ [(z0, 1), (z1, 4)] := by rw [dsP_snoc (by have := hN.out; omega), hz0.out, hz1.out]
          replace eD := Lib.hid eD
          have g8 : z0 < 8 := by omega
          have g9 : z1 ≤ 2147483647 := by omega
          clear q0 q1 q2 q3 v0 v1
          have tD : total (dsP (o.x.ds.take k)) ≤ 320 := by rw [dsP_total, List.length_take]; omega
          have i1 : (0 : Int) ≤ k := by omega
          have i2 : (k : Int) < N := by omega
          have c1x : IntKind.u64.wrap (z0 : Int) = (z0 : Int) := by rw [IntKind.wrap_u64]; omega
          have c2x : IntKind.u64.wrap (z1 : Int) = (z1 : Int) := by rw [IntKind.wrap_u64]; omega
          refine wp_skip ?_
          show Code.wp _ _ _ _ _
          refine wp_seq (wp_block ?_)
          refine wp_region_noPanic ?_
          refine wp_region_held_drew (S := CnF w0 o P Z) (by kernel_rfl) H.drew (fun H => ?_)
          replace ow : CnO w0 ((hdP o.x ++ [(bP o.x.wa, 1)] ++ [(N, 1)]) ++ dsP (o.x.ds.take k)) A c w.drew := ow
          obtain ⟨w1, hw1⟩ : ∃ W, W = w.drew := ⟨_, rfl⟩
          rw [← hw1] at H ow ⊢
          clear hw1
          refine hx1 3 S (.slice A (total ((hdP o.x ++ [(bP o.x.wa, 1)] ++ [(N, 1)]) ++ dsP (o.x.ds.take k))) c) (i := 0) rfl rfl (fun w' hw ev ec e => by go_simp; try rfl) H ?_ (by kernel_rfl) (by kernel_rfl) (by kernel_rfl)
          intro a S
          refine hx1 1 S (.pointer (some ⟨w0.heap.size, 19, none⟩)) (i := 1) rfl rfl (fun w' hw ev ec e => by go_simp; try rfl) H ?_ (by kernel_rfl) (by kernel_rfl) (by kernel_rfl)
          intro a S
          refine hx1 103 S (.slice o.D N o.dc) (i := 2) rfl rfl (fun w' hw ev ec e => by have s0 := kD w' hw; go_simp; try rfl) H ?_ (by kernel_rfl) (by kernel_rfl) (by kernel_rfl)
          intro a S
          refine hx1 7 S (.int .i64 (k : Int)) (i := 3) rfl rfl (fun w' hw ev ec e => by go_simp; try rfl) H ?_ (by kernel_rfl) (by kernel_rfl) (by kernel_rfl)
          intro a S
          refine hx2 104 105 S (.pointer (some (ad.add (k * 2)))) (i := 4) rfl rfl rfl rfl (fun w' hw ev ec e e2 => by rw [hA] at e; go_simp; try rfl) H ?_ (by kernel_rfl) (by kernel_rfl) (by kernel_rfl)
          intro a S
          refine hx1 106 S (.pointer (some (ad.add (k * 2)))) (i := 5) rfl rfl (fun w' hw ev ec e => by go_simp; try rfl) H ?_ (by kernel_rfl) (by kernel_rfl) (by kernel_rfl)
          intro a S
          refine hx1 107 S (.int .i64 (z0 : Int)) (i := 6) rfl rfl (fun w' hw ev ec e => by have s0 := (hcl w' hw.hB).1; go_simp; try rfl) H ?_ (by kernel_rfl) (by kernel_rfl) (by kernel_rfl)
          intro a S
          refine hx1 108 S (.int .u64 (z0 : Int)) (i := 7) rfl rfl (fun w' hw ev ec e => by go_simp; try rfl) H ?_ (by kernel_rfl) (by kernel_rfl) (by kernel_rfl)
          intro a S
          refine hx1 1 S (.pointer (some ⟨w0.heap.size, 19, none⟩)) (i := 10) rfl rfl (fun w' hw ev ec e => by go_simp; try rfl) H ?_ (by kernel_rfl) (by kernel_rfl) (by kernel_rfl)
          intro a S
          refine hx1 112 S (.slice o.D N o.dc) (i := 11) rfl rfl (fun w' hw ev ec e => by have s0 := kD w' hw; go_simp; try rfl) H ?_ (by kernel_rfl) (by kernel_rfl) (by kernel_rfl)
          intro a S
          refine hx1 7 S (.int .i64 (k : Int)) (i := 12) rfl rfl (fun w' hw ev ec e => by go_simp; try rfl) H ?_ (by kernel_rfl) (by kernel_rfl) (by kernel_rfl)
          intro a S
          refine hx2 113 114 S (.pointer (some (ad.add (k * 2)))) (i := 13) rfl rfl rfl rfl (fun w' hw ev ec e e2 => by rw [hA] at e; go_simp; try rfl) H ?_ (by kernel_rfl) (by kernel_rfl) (by kernel_rfl)
          intro a S
          refine hx1 115 S (.pointer (some ⟨(ad.add (k * 2)).block, (ad.add (k * 2)).off + 1, none⟩)) (i := 14) rfl rfl (fun w' hw ev ec e => by go_simp; try rfl) H ?_ (by kernel_rfl) (by kernel_rfl) (by kernel_rfl)
          intro a S
          refine hx1 116 S (.int .i64 (z1 : Int)) (i := 15) rfl rfl (fun w' hw ev ec e => by have s0 := (hcl w' hw.hB).2; go_simp; try rfl) H ?_ (by kernel_rfl) (by kernel_rfl) (by kernel_rfl)
          intro a S
          refine hx1 117 S (.int .u64 (z1 : Int)) (i := 16) rfl rfl (fun w' hw ev ec e => by go_simp; try rfl) H ?_ (by kernel_rfl) (by kernel_rfl) (by kernel_rfl)
          intro a S
          refine wpAnyH_ready (rs := [8]) (by kernel_rfl) (by simp) (AllReadyH.cons rfl ?_ AllReadyH.nil)
          refine hKG (fun p : Option Addr × Nat => .slice p.1 1 p.2) (none, 0) S 88 #[.int .u64 ((z0 : Nat) : Int), .int .i64 1] (fun p w' => Reads w' w'.heap.size 1 p.1 1 (u8s (flat [(z0, 1)])) ∧ Below w1.heap.size w1 w') (wantN rfl _) H (fun _ => runG 109 S rfl rfl (fun ev ec ef e => by go_simp; try rfl)) (fun _ => rdig (z0) 1 _ _ rfl rfl (by omega) (by decide) w1) (fun p w' hh => H.below hh.2) ?_
          intro a w2 ⟨X1, cc1⟩ hr1 H S
          replace hr1 := hr1 rfl
          replace ow := own_below ow hr1.2
          refine wpAnyH_ready (rs := [9]) (by kernel_rfl) (by simp) (AllReadyH.cons rfl ?_ AllReadyH.nil)
          refine cnA (qs := [(z0, 1)]) S H ow hr1.1 (total_oneq _ _) (by rw [total_app, tQ, total_oneq]; omega) rfl rfl rfl (fun a w3 A c S H ow => ?_)
          refine wpAnyH_ready (rs := [17]) (by kernel_rfl) (by simp) (AllReadyH.cons rfl ?_ AllReadyH.nil)
          refine hKG (fun p : Option Addr × Nat => .slice p.1 4 p.2) (none, 0) S 88 #[.int .u64 ((z1 : Nat) : Int), .int .i64 4] (fun p w' => Reads w' w'.heap.size 1 p.1 4 (u8s (flat [(z1, 4)])) ∧ Below w3.heap.size w3 w') (wantN rfl _) H (fun _ => runG 118 S rfl rfl (fun ev ec ef e => by go_simp; try rfl)) (fun _ => rdig (z1) 4 _ _ rfl rfl (by omega) (by decide) w3) (fun p w' hh => H.below hh.2) ?_
          intro a w4 ⟨X1, cc1⟩ hr2 H S
          replace hr2 := hr2 rfl
          replace ow := own_below ow hr2.2
          refine wpAnyH_ready (rs := [18]) (by kernel_rfl) (by simp) (AllReadyH.cons rfl ?_ AllReadyH.nil)
          refine cnA (qs := [(z1, 4)]) S H ow hr2.1 (total_oneq _ _) (by rw [total_app, total_app, tQ, total_oneq, total_oneq]; omega) rfl rfl rfl (fun a w5 A c S H ow => ?_)
          refine hx1 120 S (.slice A (total ((hdP o.x ++ [(bP o.x.wa, 1)] ++ [(N, 1)]) ++ dsP (o.x.ds.take k) ++ [(z0, 1)] ++ [(z1, 4)])) c) (i := 19) rfl rfl (fun w' hw ev ec e => by go_simp; try rfl) H ?_ (by kernel_rfl) (by kernel_rfl) (by kernel_rfl)
          intro a S
          refine wpAnyH_done (by kernel_rfl) ?_ _
          refine NoPanic.normal ?_
          show Code.wp _ _ _ _ _
          have eQ : (hdP o.x ++ [(bP o.x.wa, 1)] ++ [(N, 1)]) ++ dsP (o.x.ds.take k) ++ [(z0, 1)] ++ [(z1, 4)] = (hdP o.x ++ [(bP o.x.wa, 1)] ++ [(N, 1)]) ++ dsP (o.x.ds.take (k + 1)) := by rw [eD.out]; simp
          rw [eQ] at S ow
          clear eQ
          refine wp_region_lit ?_
          refine qMv (fun a S => ?_)
          refine sx1 100 S (.int .i64 ((k + 1 : Nat) : Int)) (wantN rfl _) rfl (fun _ => rfl) (fun ev ec e => by have hw : IntKind.i64.wrap ((k : Int) + 1) = ((k + 1 : Nat) : Int) := IntWalk.i64_in _ (by omega); go_simp; try rfl) ?_; intro a S
          refine qAs (fun a S => ?_)
          refine wpList_nil ?_
          show ∃ n', _
          exact ⟨N - (k + 1), by omega, k + 1, _, _, rfl, by omega, S.sub (allC rfl (allC rfl (allC rfl allN))), H, ow⟩
        · obtain rfl : k = N := by have := of_decide_eq_false hf; omega
          refine wp_exit ?_
          refine then_exit (then_exit (inBlock_exit ?_))
          show ∃ A c, _
          have ek : (hdP o.x ++ [(bP o.x.wa, 1)] ++ [(k, 1)]) ++ dsP (o.x.ds.take k) = conP o.x := by
            rw [List.take_of_length_le (by have := hN.out; omega), hN.out]
            unfold conP
            rw [hk.out]
            simp
          rw [ek] at S ow
          exact ⟨A, c, S.sub (allC rfl allN), H, ow⟩
      refine wp_seq (wp_region_lit ?_)
      repeat (first | refine qMv (fun a S => ?_) | refine qOr (fun a S => ?_) | refine qF (fun a S => ?_) | refine qL H.k1 (fun a S => ?_) | refine qEql (fun a S => ?_) | refine qAs (fun a S => ?_))
      refine wpList_nil ?_
      show Code.wp _ _ _ _ _
      refine wp_cond_split (S.fx 121 _ rfl) (fun ht => ?_) (fun h6 => ?_)
      · have hk := Lib.hid (show o.x.kd = 6 by simpa using ht)
        have et : thP o.x = hdP o.x := if_neg (by have := hk.out; omega)
        rw [et] at ow S
        clear et ht
        replace S : Sx a 171 [(3, gv true (.slice A (total (hdP o.x)) c)), (1, gv true (.pointer (some ⟨w0.heap.size, 0, none⟩)))] := S.sub (allC rfl (allC rfl allN))
        obtain ⟨N, hN⟩ : ∃ N : Nat, Hid (N = o.x.ls.length) := ⟨_, Lib.hid rfl⟩
        have hN8 : N ≤ 8 := by have := hN.out; omega
        have rdN : Reads w0 w0.heap.size 1 o.L N (ints .u32 o.x.ls) := by rw [hN.out]; exact rl
        have kD : ∀ w', CnF w0 o P Z w' → w'.cell? ⟨w0.heap.size, 23, none⟩ = some (.slice o.L N o.lc) := fun w' hw => by rw [hN.out]; exact hw.k1.cell 23
        obtain ⟨z1, hz1⟩ : ∃ z : Nat, Hid ((o.x.e1 + 2147483648).toNat = z) := ⟨_, Lib.hid rfl⟩
        obtain ⟨z2, hz2⟩ : ∃ z : Nat, Hid ((o.x.e2 + 2147483648).toNat = z) := ⟨_, Lib.hid rfl⟩
        have g1 : z1 < 4294967296 := by have := hz1.out; omega
        have g2 : z2 < 4294967296 := by have := hz2.out; omega
        have hbp : bP o.x.eh < 18446744073709551616 := by unfold bP; split <;> decide
        refine wp_seq (wp_region_lit ?_)
        refine qMv (fun a S => ?_)
        refine qF (fun a S => ?_)
        refine qF (fun a S => ?_)
        refine qL H.k1 (fun a S => ?_)
        refine sxKA S 90 #[.bool o.x.eh] (fun u w' => u = .int .u64 ((bP o.x.eh : Nat) : Int) ∧ Below w.heap.size w w') (runG 126 S rfl rfl (fun ev ec ef e => by go_simp; try rfl)) ((rflag_any o.x.eh w).mono (fun en w' ⟨h1, h2⟩ => ⟨_, h1, by unfold bP; cases o.x.eh <;> rfl, by rw [← h2]; exact Below.refl _ _⟩)) ?_
        rintro a w1 u ⟨rfl, h2⟩ S
        replace H := H.below h2
        replace ow := own_below ow h2
        clear h2
        refine sxKA S 88 #[.int .u64 ((bP o.x.eh : Nat) : Int), .int .i64 1] (fun u w' => ∃ p : Option Addr × Nat, u = .slice p.1 1 p.2 ∧ Reads w' w'.heap.size 1 p.1 1 (u8s (flat [(bP o.x.eh, 1)])) ∧ Below w1.heap.size w1 w') (runG 127 S rfl rfl (fun ev ec ef e => by go_simp; try rfl)) ((rdig (bP o.x.eh) 1 _ _ rfl rfl hbp (by decide) w1).mono (fun en w' ⟨p, h1, h2, h3⟩ => ⟨_, h1, p, rfl, h2, h3⟩)) ?_
        rintro a w2 u ⟨⟨X1, cc1⟩, rfl, hr1, h2⟩ S
        replace H := H.below h2
        replace ow := own_below ow h2
        clear h2
        refine cnB (qs := [(bP o.x.eh, 1)]) S H ow hr1 (total_oneq _ _) (by rw [total_oneq]; have := lens; omega) rfl rfl rfl (fun a w A c S H ow => ?_)
        refine qAs (fun a S => ?_)
        replace S : Sx a 171 [(3, gv true (.slice A (total (hdP o.x ++ [(bP o.x.eh, 1)])) c)), (1, gv true (.pointer (some ⟨w0.heap.size, 0, none⟩)))] := S.sub (allC rfl (allC rfl allN))
        refine wpList_nil ?_
        show Code.wp _ _ _ _ _
        refine wp_seq ?_
        refine wp_region_noPanic ?_
        refine wp_region_held_drew (S := CnF w0 o P Z) (by kernel_rfl) H.drew (fun H => ?_)
        replace ow : CnO w0 (hdP o.x ++ [(bP o.x.eh, 1)]) A c w.drew := ow
        obtain ⟨w1, hw1⟩ : ∃ W, W = w.drew := ⟨_, rfl⟩
        rw [← hw1] at H ow ⊢
        clear hw1
        refine hx1 3 S (.slice A (total (hdP o.x ++ [(bP o.x.eh, 1)])) c) (i := 0) rfl rfl (fun w' hw ev ec e => by go_simp; try rfl) H ?_ (by kernel_rfl) (by kernel_rfl) (by kernel_rfl)
        intro a S
        refine hx1 1 S (.pointer (some ⟨w0.heap.size, 20, none⟩)) (i := 1) rfl rfl (fun w' hw ev ec e => by go_simp; try rfl) H ?_ (by kernel_rfl) (by kernel_rfl) (by kernel_rfl)
        intro a S
        refine hx1 131 S (.pointer (some ⟨w0.heap.size, 21, none⟩)) (i := 2) rfl rfl (fun w' hw ev ec e => by go_simp; try rfl) H ?_ (by kernel_rfl) (by kernel_rfl) (by kernel_rfl)
        intro a S
        refine hx1 132 S (.int .i64 o.x.e1) (i := 3) rfl rfl (fun w' hw ev ec e => by have s0 := hw.k1.cell 21; go_simp; try rfl) H ?_ (by kernel_rfl) (by kernel_rfl) (by kernel_rfl)
        intro a S
        have ca : IntKind.i64.wrap (o.x.e1 + 2147483647) = o.x.e1 + 2147483647 := IntWalk.i64_in _ (by omega)
        have cb : IntKind.i64.wrap (o.x.e1 + 2147483647 + 1) = (z1 : Int) := by have := hz1.out; rw [IntWalk.i64_in _ (by omega)]; omega
        have cc : IntKind.u64.wrap (z1 : Int) = (z1 : Int) := by rw [IntKind.wrap_u64]; omega
        refine hx1 133 S (.int .i64 (o.x.e1 + 2147483647)) (i := 4) rfl rfl (fun w' hw ev ec e => by go_simp; try rfl) H ?_ (by kernel_rfl) (by kernel_rfl) (by kernel_rfl)
        intro a S
        refine hx1 134 S (.int .i64 (z1 : Int)) (i := 5) rfl rfl (fun w' hw ev ec e => by go_simp; try rfl) H ?_ (by kernel_rfl) (by kernel_rfl) (by kernel_rfl)
        intro a S
        refine hx1 135 S (.int .u64 (z1 : Int)) (i := 6) rfl rfl (fun w' hw ev ec e => by go_simp; try rfl) H ?_ (by kernel_rfl) (by kernel_rfl) (by kernel_rfl)
        intro a S
        clear ca cb cc
        refine hx1 1 S (.pointer (some ⟨w0.heap.size, 20, none⟩)) (i := 9) rfl rfl (fun w' hw ev ec e => by go_simp; try rfl) H ?_ (by kernel_rfl) (by kernel_rfl) (by kernel_rfl)
        intro a S
        refine hx1 139 S (.pointer (some ⟨w0.heap.size, 22, none⟩)) (i := 10) rfl rfl (fun w' hw ev ec e => by go_simp; try rfl) H ?_ (by kernel_rfl) (by kernel_rfl) (by kernel_rfl)
        intro a S
        refine hx1 140 S (.int .i64 o.x.e2) (i := 11) rfl rfl (fun w' hw ev ec e => by have s0 := hw.k1.cell 22; go_simp; try rfl) H ?_ (by kernel_rfl) (by kernel_rfl) (by kernel_rfl)
        intro a S
        have ca : IntKind.i64.wrap (o.x.e2 + 2147483647) = o.x.e2 + 2147483647 := IntWalk.i64_in _ (by omega)
        have cb : IntKind.i64.wrap (o.x.e2 + 2147483647 + 1) = (z2 : Int) := by have := hz2.out; rw [IntWalk.i64_in _ (by omega)]; omega
        have cc : IntKind.u64.wrap (z2 : Int) = (z2 : Int) := by rw [IntKind.wrap_u64]; omega
        refine hx1 141 S (.int .i64 (o.x.e2 + 2147483647)) (i := 12) rfl rfl (fun w' hw ev ec e => by go_simp; try rfl) H ?_ (by kernel_rfl) (by kernel_rfl) (by kernel_rfl)
        intro a S
        refine hx1 142 S (.int .i64 (z2 : Int)) (i := 13) rfl rfl (fun w' hw ev ec e => by go_simp; try rfl) H ?_ (by kernel_rfl) (by kernel_rfl) (by kernel_rfl)
        intro a S
        refine hx1 143 S (.int .u64 (z2 : Int)) (i := 14) rfl rfl (fun w' hw ev ec e => by go_simp; try rfl) H ?_ (by kernel_rfl) (by kernel_rfl) (by kernel_rfl)
        intro a S
        clear ca cb cc
        refine wpAnyH_ready (rs := [7]) (by kernel_rfl) (by simp) (AllReadyH.cons rfl ?_ AllReadyH.nil)
        refine hKG (fun p : Option Addr × Nat => .slice p.1 4 p.2) (none, 0) S 88 #[.int .u64 ((z1 : Nat) : Int), .int .i64 4] (fun p w' => Reads w' w'.heap.size 1 p.1 4 (u8s (flat [(z1, 4)])) ∧ Below w1.heap.size w1 w') (wantN rfl _) H (fun _ => runG 136 S rfl rfl (fun ev ec ef e => by go_simp; try rfl)) (fun _ => rdig (z1) 4 _ _ rfl rfl (by omega) (by decide) w1) (fun p w' hh => H.below hh.2) ?_
        intro a w2 ⟨X1, cc1⟩ hr1 H S
        replace hr1 := hr1 rfl
        replace ow := own_below ow hr1.2
        refine wpAnyH_ready (rs := [8]) (by kernel_rfl) (by simp) (AllReadyH.cons rfl ?_ AllReadyH.nil)
        refine cnA (qs := [(z1, 4)]) S H ow hr1.1 (total_oneq _ _) (by rw [total_app, total_oneq, total_oneq]; have := lens; omega) rfl rfl rfl (fun a w3 A c S H ow => ?_)
        refine wpAnyH_ready (rs := [15]) (by kernel_rfl) (by simp) (AllReadyH.cons rfl ?_ AllReadyH.nil)
        refine hKG (fun p : Option Addr × Nat => .slice p.1 4 p.2) (none, 0) S 88 #[.int .u64 ((z2 : Nat) : Int), .int .i64 4] (fun p w' => Reads w' w'.heap.size 1 p.1 4 (u8s (flat [(z2, 4)])) ∧ Below w3.heap.size w3 w') (wantN rfl _) H (fun _ => runG 144 S rfl rfl (fun ev ec ef e => by go_simp; try rfl)) (fun _ => rdig (z2) 4 _ _ rfl rfl (by omega) (by decide) w3) (fun p w' hh => H.below hh.2) ?_
        intro a w4 ⟨X1, cc1⟩ hr2 H S
        replace hr2 := hr2 rfl
        replace ow := own_below ow hr2.2
        refine wpAnyH_ready (rs := [16]) (by kernel_rfl) (by simp) (AllReadyH.cons rfl ?_ AllReadyH.nil)
        refine cnA (qs := [(z2, 4)]) S H ow hr2.1 (total_oneq _ _) (by rw [total_app, total_app, total_oneq, total_oneq, total_oneq]; have := lens; omega) rfl rfl rfl (fun a w5 A c S H ow => ?_)
        refine hx1 146 S (.slice A (total (hdP o.x ++ [(bP o.x.eh, 1)] ++ [(z1, 4)] ++ [(z2, 4)])) c) (i := 17) rfl rfl (fun w' hw ev ec e => by go_simp; try rfl) H ?_ (by kernel_rfl) (by kernel_rfl) (by kernel_rfl)
        intro a S
        refine wpAnyH_done (by kernel_rfl) ?_ _
        refine NoPanic.normal ?_
        replace S : Sx a 171 [(3, gv true (.slice A (total (hdP o.x ++ [(bP o.x.eh, 1)] ++ [(z1, 4)] ++ [(z2, 4)])) c)), (1, gv true (.pointer (some ⟨w0.heap.size, 0, none⟩)))] := S.sub (allC rfl (allC rfl allN))
        show Code.wp _ _ _ _ _
        refine wp_seq (wp_region_lit ?_)
        refine qMv (fun a S => ?_)
        refine qF (fun a S => ?_)
        refine sx1 148 S (.slice o.L N o.lc) (wantN rfl _) rfl (fun _ => rfl) (fun ev ec e => by have s0 := kD _ H; go_simp; try rfl) ?_; intro a S
        refine qLen (fun a S => ?_)
        have cx : IntKind.u64.wrap (N : Int) = ((N : Nat) : Int) := by skip; rw [IntKind.wrap_u64]; omega
        refine sx1 150 S (.int .u64 (N : Int)) (wantN rfl _) rfl (fun _ => rfl) (fun ev ec e => by go_simp; try rfl) ?_; intro a S
        clear cx
        refine sxKA S 88 #[.int .u64 ((N : Nat) : Int), .int .i64 1] (fun u w' => ∃ p : Option Addr × Nat, u = .slice p.1 1 p.2 ∧ Reads w' w'.heap.size 1 p.1 1 (u8s (flat [(N, 1)])) ∧ Below w5.heap.size w5 w') (runG 151 S rfl rfl (fun ev ec ef e => by go_simp; try rfl)) ((rdig (N) 1 _ _ rfl rfl (by omega) (by decide) w5).mono (fun en w' ⟨p, h1, h2, h3⟩ => ⟨_, h1, p, rfl, h2, h3⟩)) ?_
        rintro a w6 u ⟨⟨X1, cc1⟩, rfl, hr1, h2⟩ S
        replace H := H.below h2
        replace ow := own_below ow h2
        clear h2
        refine cnB (qs := [(N, 1)]) S H ow hr1 (total_oneq _ _) (by rw [total_app, total_app, total_app, total_oneq, total_oneq, total_oneq, total_oneq]; have := lens; omega) rfl rfl rfl (fun a w A c S H ow => ?_)
        refine qAs (fun a S => ?_)
        replace S : Sx a 171 [(3, gv true (.slice A (total (hdP o.x ++ [(bP o.x.eh, 1)] ++ [(z1, 4)] ++ [(z2, 4)] ++ [(N, 1)])) c)), (1, gv true (.pointer (some ⟨w0.heap.size, 0, none⟩)))] := S.sub (allC rfl (allC rfl allN))
        refine wpList_nil ?_
        show Code.wp _ _ _ _ _
        refine wp_seq (wp_region_lit ?_)
        refine sx0 S (.int .i64 ((0 : Nat) : Int)) (wantN rfl _) rfl (by decide) (fun _ => by go_simp; try rfl) ?_; intro a S
        refine wpList_nil ?_
        show Code.wp _ _ _ _ _
        refine wp_block ?_
        have tQ : total (hdP o.x ++ [(bP o.x.eh, 1)] ++ [(z1, 4)] ++ [(z2, 4)] ++ [(N, 1)]) = 17 := by rw [total_app, total_app, total_app, total_app, total_oneq, total_oneq, total_oneq, total_oneq]; have := lens; omega
        refine wp_loop_ghost (fun g a wx => ∃ (k : Nat) (A : Option Addr) (c : Nat), g = N - k ∧ k ≤ N ∧ Sx a 171 [(8, gv true (.int .i64 (k : Int))), (3, gv true (.slice A (total ((hdP o.x ++ [(bP o.x.eh, 1)] ++ [(z1, 4)] ++ [(z2, 4)] ++ [(N, 1)]) ++ lsP (o.x.ls.take k))) c)), (1, gv true (.pointer (some ⟨w0.heap.size, 0, none⟩)))] ∧ CnF w0 o P Z wx ∧ CnO w0 ((hdP o.x ++ [(bP o.x.eh, 1)] ++ [(z1, 4)] ++ [(z2, 4)] ++ [(N, 1)]) ++ lsP (o.x.ls.take k)) A c wx) N ⟨0, A, c, rfl, by omega, by simpa [lsP] using (S.sub (allC rfl (allC rfl (allC rfl allN))) : Sx a 171 [(8, gv true (.int .i64 ((0 : Nat) : Int))), (3, gv true (.slice A (total (hdP o.x ++ [(bP o.x.eh, 1)] ++ [(z1, 4)] ++ [(z2, 4)] ++ [(N, 1)])) c)), (1, gv true (.pointer (some ⟨w0.heap.size, 0, none⟩)))]), H, by simpa [lsP] using ow⟩ ?_
        clear S H ow
        rintro g a w ⟨k, A, c, rfl, hkN, S, H, ow⟩
        refine wp_seq (wp_seq (wp_region_lit ?_))
        refine qMv (fun a S => ?_)
        refine qF (fun a S => ?_)
        refine sx1 155 S (.slice o.L N o.lc) (wantN rfl _) rfl (fun _ => rfl) (fun ev ec e => by have s0 := kD w H; go_simp; try rfl) ?_; intro a S
        refine qLen (fun a S => ?_)
        refine sx2 154 157 S (.bool (decide ((k : Int) < (N : Int)))) (wantN rfl _) rfl rfl (fun _ => rfl) (fun _ => rfl) (fun ev ec e e2 => by go_simp; try rfl) ?_; intro a S
        refine wpList_nil ?_
        show Code.wp _ _ _ _ _
        refine wp_cond_split (S.fx 158 _ rfl) (fun ht => ?_) (fun hf => ?_)
        · have hlt : k < N := by have := of_decide_eq_true ht; omega
          replace S : Sx a 171 [(8, gv true (.int .i64 (k : Int))), (3, gv true (.slice A (total ((hdP o.x ++ [(bP o.x.eh, 1)] ++ [(z1, 4)] ++ [(z2, 4)] ++ [(N, 1)]) ++ lsP (o.x.ls.take k))) c)), (1, gv true (.pointer (some ⟨w0.heap.size, 0, none⟩)))] := S.sub (allC rfl (allC rfl (allC rfl allN)))
          obtain ⟨ad, hA, hab, hcl⟩ := at_intsq hN.out.symm rdN hlt
          obtain ⟨z, hz⟩ : ∃ z : Nat, Hid (z = o.x.ls.getD k 0) := ⟨_, Lib.hid rfl⟩
          rw [← hz.out] at hcl
          have eD : lsP (o.x.ls.take (k + 1)) = lsP (o.x.ls.take k) ++ [(z, 4)] := by rw [lsP_snoc (by have := hN.out; omega), hz.out]
          replace eD := Lib.hid eD
          have gz : z < 4294967296 := by rw [hz.out, List.getD_eq_getElem?_getD, List.getElem?_eq_getElem (by have := hN.out; omega)]; exact hb.2 _ (List.getElem_mem _)
          have tD : total (lsP (o.x.ls.take k)) ≤ 32 := by rw [lsP_total, List.length_take]; omega
          have i1 : (0 : Int) ≤ k := by omega
          have i2 : (k : Int) < N := by omega
          have cx : IntKind.u64.wrap (z : Int) = (z : Int) := by rw [IntKind.wrap_u64]; omega
          refine wp_skip ?_
          show Code.wp _ _ _ _ _
          refine wp_seq (wp_block (wp_region_lit ?_))
          refine qMv (fun a S => ?_)
          refine qF (fun a S => ?_)
          refine sx1 162 S (.slice o.L N o.lc) (wantN rfl _) rfl (fun _ => rfl) (fun ev ec e => by have s0 := kD w H; go_simp; try rfl) ?_; intro a S
          refine qMv (fun a S => ?_)
          refine sx2 163 164 S (.pointer (some (ad.add k))) (wantN rfl _) rfl rfl (fun _ => rfl) (fun _ => rfl) (fun ev ec e e2 => by rw [hA] at e; go_simp; try rfl) ?_; intro a S
          refine sx1 165 S (.int .u32 (z : Int)) (wantN rfl _) rfl (fun _ => rfl) (fun ev ec e => by have s0 := (H.hB.cell (p := ad.add k) (by rw [block_of_add]; exact hab)).trans hcl; go_simp; try rfl) ?_; intro a S
          refine sx1 166 S (.int .u64 (z : Int)) (wantN rfl _) rfl (fun _ => rfl) (fun ev ec e => by go_simp; try rfl) ?_; intro a S
          refine sxKA S 88 #[.int .u64 ((z : Nat) : Int), .int .i64 4] (fun u w' => ∃ p : Option Addr × Nat, u = .slice p.1 4 p.2 ∧ Reads w' w'.heap.size 1 p.1 4 (u8s (flat [(z, 4)])) ∧ Below w.heap.size w w') (runG 167 S rfl rfl (fun ev ec ef e => by go_simp; try rfl)) ((rdig (z) 4 _ _ rfl rfl (by omega) (by decide) w).mono (fun en w' ⟨p, h1, h2, h3⟩ => ⟨_, h1, p, rfl, h2, h3⟩)) ?_
          rintro a w1 u ⟨⟨X1, cc1⟩, rfl, hr1, h2⟩ S
          replace H := H.below h2
          replace ow := own_below ow h2
          clear h2
          refine cnB (qs := [(z, 4)]) S H ow hr1 (total_oneq _ _) (by rw [total_app, tQ, total_oneq]; omega) rfl rfl rfl (fun a w A c S H ow => ?_)
          refine qAs (fun a S => ?_)
          refine wpList_nil ?_
          show Code.wp _ _ _ _ _
          have eQ : (hdP o.x ++ [(bP o.x.eh, 1)] ++ [(z1, 4)] ++ [(z2, 4)] ++ [(N, 1)]) ++ lsP (o.x.ls.take k) ++ [(z, 4)] = (hdP o.x ++ [(bP o.x.eh, 1)] ++ [(z1, 4)] ++ [(z2, 4)] ++ [(N, 1)]) ++ lsP (o.x.ls.take (k + 1)) := by rw [eD.out]; simp
          rw [eQ] at S ow
          clear eQ
          refine wp_region_lit ?_
          refine qMv (fun a S => ?_)
          refine sx1 159 S (.int .i64 ((k + 1 : Nat) : Int)) (wantN rfl _) rfl (fun _ => rfl) (fun ev ec e => by have hw : IntKind.i64.wrap ((k : Int) + 1) = ((k + 1 : Nat) : Int) := IntWalk.i64_in _ (by omega); go_simp; try rfl) ?_; intro a S
          refine qAs (fun a S => ?_)
          refine wpList_nil ?_
          show ∃ n', _
          exact ⟨N - (k + 1), by omega, k + 1, _, _, rfl, by omega, S.sub (allC rfl (allC rfl (allC rfl allN))), H, ow⟩
        · obtain rfl : k = N := by have := of_decide_eq_false hf; omega
          refine wp_exit ?_
          refine then_exit (then_exit (inBlock_exit ?_))
          show ∃ A c, _
          have ek : (hdP o.x ++ [(bP o.x.eh, 1)] ++ [(z1, 4)] ++ [(z2, 4)] ++ [(k, 1)]) ++ lsP (o.x.ls.take k) = conP o.x := by
            rw [List.take_of_length_le (by have := hN.out; omega), hN.out, ← hz1.out, ← hz2.out]
            unfold conP
            rw [hk.out]
            simp
          rw [ek] at S ow
          exact ⟨A, c, S.sub (allC rfl allN), H, ow⟩
      refine wp_skip ?_
      show ∃ A c, _
      have h4 : o.x.kd = 4 := by simp at h1 h2 h5 h6; omega
      have ek : thP o.x = conP o.x := by unfold thP conP; rw [h4]; simp
      rw [ek] at S ow
      exact ⟨A, c, S.sub (allC rfl allN), H, ow⟩
  refine wp_seq (wp_region_lit ?_)
  refine qMv (fun a S => ?_)
  refine qAs (fun a S => ?_)
  refine wpList_nil ?_
  show Code.wp _ _ _ _ _
  refine wp_ret ?_
  show bodyPost _ _ _ .ret a _
  refine bodyPost_ret (v := .slice A (total (conP o.x)) c) ?_ S.df ?_
  · exact (results_tmp rfl _ _ _).trans (by rw [show a.tmps.getD 2 undef = _ from S.fx 2 _ rfl]; rfl)
  exact ⟨A, c, rfl, own_base_leU ow (by omega), H.hB⟩
end Go.Proofs.Ytjmhefkmpfkpbaa
