/- Mail: an argument that is a mail, opened -/
import Derived.Test.YtjmhefkmpfkpbaaPF
import Derived.Deep.Draws
import Derived.Deep.Fields
import Derived.Deep.Strs
import Derived.Deep.SlicePairs
import Derived.Lib.SmallJoins
namespace Go.Proofs.Ytjmhefkmpfkpbaa
open Go.ChangeShapes Go.WideShapes Go.ChangeAt Go.RowKit Go.Joins Go.Deep
set_option linter.unusedSimpArgs false
set_option linter.unusedVariables false
/-- Limbs are below 2^32. -/
def ltM (m : Ms) : Prop := (∀ x ∈ m.s.ls, x < 4294967296) ∧ (∀ x ∈ m.w.ls, x < 4294967296) ∧ (∀ x ∈ m.c.ls, x < 4294967296) ∧ (∀ x ∈ m.a.ls, x < 4294967296)
def ltL (m : Ml) : Prop := ltM m.give ∧ ∀ x ∈ m.ls, x < 4294967296
theorem u8_range {x : Int} (h : (Lit.int .u8 x).wf = true) : 0 ≤ x ∧ x < 256 := by
  simp [Lit.wf, IntKind.min, IntKind.max, IntKind.signed, IntKind.bits] at h
  omega
section
variable {H : Type} {enc : TypeId × Value → H} {P : Program} {w : World}
/-- A field that is a slice of integers. -/
theorem open_field {n0 : Nat} {t e : TypeId} {k : IntKind} {v : Value} {y : DataW H × List MemPlace} (ht : P.underlying t = some (.slice e)) (he : P.underlying e = some (.int k)) (hc : P.cellsOf e = 1)
    (hf : DataW.trod enc P w 0 (fun _ => true) true n0 t [v] = some y) :
    ∃ (A : Option Addr) (n c : Nat) (zs : List Int), v = .slice A n c ∧ n ≤ c ∧ zs.length = n ∧ Reads w w.heap.size 1 A n (zs.map (Value.int k)) ∧ ∀ z ∈ zs, (Lit.int k z).wf = true := by
  rcases open_ints ht he hc hf with ⟨hcs, _⟩ | ⟨a, len', cap', zs, hcs, _, hl, hm, hz, _, hcell, hwf⟩
  · simp only [List.cons.injEq, and_true] at hcs
    subst hcs
    exact ⟨none, 0, 0, [], rfl, Nat.le_refl _, rfl, Reads.none_, by simp⟩
  · simp only [List.cons.injEq, and_true] at hcs
    subst hcs
    simp only [if_true] at hz
    refine ⟨some a, len', cap', zs.take len', rfl, hl, by simp; omega, ⟨by simp; omega, fun hn => ⟨a, rfl, ?_, ?_⟩⟩, fun z hz' => hwf z (List.mem_of_mem_take hz')⟩
    · have := World.block_lt_of_cell? w _ (hcell 0 (by omega))
      rwa [block_of_add] at this
    · intro j u hu
      rw [List.getElem?_map, List.getElem?_take] at hu
      split at hu
      · rename_i hj
        have hj' : j < zs.length := by omega
        rw [hcell j hj', List.getD_eq_getElem?_getD]
        rw [List.getElem?_eq_getElem hj'] at hu ⊢
        simpa using hu
      · simp at hu
theorem dyad_at {n0 : Nat} {t tb ts te ti : TypeId} {f0 f1 f2 : Field} {c0 c1 c2 : Value} {y : DataW H × List MemPlace} (hs : P.underlying t = some (.struct #[f0, f1, f2])) (hone : oneCellFields P #[f0, f1, f2] = true)
    (e0 : f0.type = tb) (e1 : f1.type = ts) (e2 : f2.type = ti) (hb : P.underlying tb = some .bool) (hsl : P.underlying ts = some (.slice te)) (he : P.underlying te = some (.int .u32)) (hc : P.cellsOf te = 1) (hi : P.underlying ti = some (.int .i64))
    (hf : DataW.trod enc P w 0 (fun _ => true) true n0 t [c0, c1, c2] = some y) :
    ∃ (g : Bool) (X : Option Addr) (n c : Nat) (e : Int) (l : List Nat), c0 = .bool g ∧ c1 = .slice X n c ∧ c2 = .int .i64 e ∧ RdD w w.heap.size g X n c e ⟨g, l, e⟩ ∧ ∀ x ∈ l, x < 4294967296 := by
  obtain ⟨y0, y1, y2, n, _, _, t0, t1, t2⟩ := trod_struct3 hs hf
  obtain ⟨o0, k0⟩ := hone_of hone 0 f0 rfl
  obtain ⟨o1, k1⟩ := hone_of hone 1 f1 rfl
  obtain ⟨o2, k2⟩ := hone_of hone 2 f2 rfl
  rw [o0, k0, e0] at t0
  rw [o1, k1, e1] at t1
  rw [o2, k2, e2] at t2
  simp only [List.drop_succ_cons, List.drop_zero, List.take_succ_cons, List.take_zero] at t0 t1 t2
  obtain ⟨b, q0, _⟩ := DataW.trod_bool hb t0
  obtain ⟨A, m, c, zs, rfl, hmc, hz, hR, hwf⟩ := open_field hsl he hc t1
  obtain ⟨a2, q2, _, w2⟩ := DataW.trod_int hi t2
  simp only [List.cons.injEq, and_true] at q0 q2
  rw [ints_of (fun z hz => (u32_range (hwf z hz)).1)] at hR
  exact ⟨b, A, m, c, a2, zs.map Int.toNat, q0, rfl, q2, ⟨rfl, rfl, by simpa using hz, hmc, hR⟩, fun x hx => by
    obtain ⟨z, hz', rfl⟩ := List.mem_map.1 hx
    have := u32_range (hwf z hz')
    omega⟩
end
section
variable {H : Type} {enc : TypeId × Value → H} {w : World}
theorem tms_at {n0 : Nat} {v : Value} {y : DataW H × List MemPlace} (hf : DataW.trod enc Try.prog w 0 (fun _ => true) true n0 27 [v] = some y) :
    ∃ (A : Option Addr) (n c : Nat) (l : List Tm), v = .slice A n c ∧ n ≤ c ∧ Tms w w.heap.size A n l := by
  rcases open_slice_pairs Try.underlying27 Try.underlying73 (by kernel_rfl) rfl rfl (by kernel_rfl) (by kernel_rfl) hf with ⟨hcs, _⟩ | ⟨a, len, cap, m, n, V0, V1, D0, D1, P0, P1, hcs, _, hl, hm, hmm, _, hx⟩
  · simp only [List.cons.injEq, and_true] at hcs
    subst hcs
    exact ⟨none, 0, 0, [], rfl, Nat.le_refl _, Tms.none_⟩
  · simp only [List.cons.injEq, and_true] at hcs
    subst hcs
    have hlm : len ≤ m := by rw [hmm]; split <;> omega
    have each : ∀ i : Nat, ∃ t : Tm, i < len → w.cell? (a.add (i * 2)) = some (.int .i64 t.1) ∧ w.cell? (a.add (i * 2 + 1)) = some (.int .i64 t.2) := by
      intro i
      by_cases hi : i < len
      · obtain ⟨h0, h1, t0, t1⟩ := hx i (by omega)
        obtain ⟨x, e0, _, _⟩ := DataW.trod_int Try.underlying3 t0
        obtain ⟨y, e1, _, _⟩ := DataW.trod_int Try.underlying3 t1
        simp only [List.cons.injEq, and_true] at e0 e1
        rw [e0] at h0
        rw [e1] at h1
        exact ⟨(x, y), fun _ => ⟨h0, h1⟩⟩
      · exact ⟨(0, 0), fun h => absurd h hi⟩
    obtain ⟨F, hF⟩ := Classical.axiomOfChoice each
    refine ⟨some a, len, cap, (List.range len).map F, rfl, hl, by simp, by rw [T2_len]; simp, fun h0 => ⟨a, rfl, ?_, fun j u hu => ?_⟩⟩
    · have := World.block_lt_of_cell? w _ (hF 0 h0).1
      rwa [block_of_add] at this
    · have hj : j < len * 2 := by
        have := (List.getElem?_eq_some_iff.1 hu).1
        rw [T2_len] at this
        simpa using this
      have hat : ((List.range len).map F)[j / 2]? = some (F (j / 2)) := by
        rw [List.getElem?_map, List.getElem?_range (by omega)]
        rfl
      obtain ⟨e0, e1⟩ := T2_at _ _ _ hat
      obtain ⟨c0, c1⟩ := hF (j / 2) (by omega)
      rcases Nat.mod_two_eq_zero_or_one j with h2 | h2
      · have e : j = j / 2 * 2 := by omega
        rw [← e] at e0 c0
        rw [e0] at hu
        injection hu with hu
        rw [c0, hu]
      · have e : j = j / 2 * 2 + 1 := by omega
        rw [← e] at e1 c1
        rw [e1] at hu
        injection hu with hu
        rw [c1, hu]
theorem mass_at {n0 : Nat} {c0 c1 c2 c3 c4 c5 c6 c7 c8 c9 c10 c11 : Value} {y : DataW H × List MemPlace} (hf : DataW.trod enc Try.prog w 0 (fun _ => true) true n0 26 [c0, c1, c2, c3, c4, c5, c6, c7, c8, c9, c10, c11] = some y) :
    ∃ (ag0 : Bool) (aX0 : Option Addr) (an0 ac0 : Nat) (ae0 : Int) (ag1 : Bool) (aX1 : Option Addr) (an1 ac1 : Nat) (ae1 : Int) (ag2 : Bool) (aX2 : Option Addr) (an2 ac2 : Nat) (ae2 : Int) (ag3 : Bool) (aX3 : Option Addr) (an3 ac3 : Nat) (ae3 : Int) (m : Ms), c0 = .bool ag0 ∧ c1 = .slice aX0 an0 ac0 ∧ c2 = .int .i64 ae0 ∧ c3 = .bool ag1 ∧ c4 = .slice aX1 an1 ac1 ∧ c5 = .int .i64 ae1 ∧ c6 = .bool ag2 ∧ c7 = .slice aX2 an2 ac2 ∧ c8 = .int .i64 ae2 ∧ c9 = .bool ag3 ∧ c10 = .slice aX3 an3 ac3 ∧ c11 = .int .i64 ae3 ∧ RdM w w.heap.size ag0 aX0 an0 ac0 ae0 ag1 aX1 an1 ac1 ae1 ag2 aX2 an2 ac2 ae2 ag3 aX3 an3 ac3 ae3 m ∧ ltM m := by
  obtain ⟨y0, y1, y2, y3, n, _, _, t0, t1, t2, t3⟩ := trod_struct4 Try.underlying26 hf
  have hk : Try.prog.cellsOf 24 = 3 := by kernel_rfl
  dsimp only at t0 t1 t2 t3
  rw [hk] at t0 t1 t2 t3
  simp only [List.drop_succ_cons, List.drop_zero, List.take_succ_cons, List.take_zero] at t0 t1 t2 t3
  obtain ⟨g0, X0, n0, d0, e0, l0, a0, b0, z0, r0, u0⟩ := dyad_at Try.underlying24 (by kernel_rfl) rfl rfl rfl Try.underlying4 Try.underlying22 Try.underlying52 (by kernel_rfl) Try.underlying3 t0
  obtain ⟨g1, X1, n1, d1, e1, l1, a1, b1, z1, r1, u1⟩ := dyad_at Try.underlying24 (by kernel_rfl) rfl rfl rfl Try.underlying4 Try.underlying22 Try.underlying52 (by kernel_rfl) Try.underlying3 t1
  obtain ⟨g2, X2, n2, d2, e2, l2, a2, b2, z2, r2, u2⟩ := dyad_at Try.underlying24 (by kernel_rfl) rfl rfl rfl Try.underlying4 Try.underlying22 Try.underlying52 (by kernel_rfl) Try.underlying3 t2
  obtain ⟨g3, X3, n3, d3, e3, l3, a3, b3, z3, r3, u3⟩ := dyad_at Try.underlying24 (by kernel_rfl) rfl rfl rfl Try.underlying4 Try.underlying22 Try.underlying52 (by kernel_rfl) Try.underlying3 t3
  exact ⟨g0, X0, n0, d0, e0, g1, X1, n1, d1, e1, g2, X2, n2, d2, e2, g3, X3, n3, d3, e3, ⟨⟨g0, l0, e0⟩, ⟨g1, l1, e1⟩, ⟨g2, l2, e2⟩, ⟨g3, l3, e3⟩⟩, a0, b0, z0, a1, b1, z1, a2, b2, z2, a3, b3, z3, ⟨r0, r1, r2, r3⟩, u0, u1, u2, u3⟩
set_option maxRecDepth 100000 in
set_option maxHeartbeats 4000000 in
theorem mail_at {n0 : Nat} {c0 c1 c2 c3 c4 c5 c6 c7 c8 c9 c10 c11 c12 c13 c14 c15 c16 c17 c18 c19 c20 c21 c22 c23 : Value} {y : DataW H × List MemPlace} (hf : DataW.trod enc Try.prog w 0 (fun _ => true) true n0 31 [c0, c1, c2, c3, c4, c5, c6, c7, c8, c9, c10, c11, c12, c13, c14, c15, c16, c17, c18, c19, c20, c21, c22, c23] = some y) :
    ∃ o : MO, .agg #[c0, c1, c2, c3, c4, c5, c6, c7, c8, c9, c10, c11, c12, c13, c14, c15, c16, c17, c18, c19, c20, c21, c22, c23] = aggL o ∧ rdL w w.heap.size o ∧ ltL o.x ∧ (0 ≤ o.x.kd ∧ o.x.kd < 256) := by
  obtain ⟨xs, n, _, _, _, hl, hx⟩ := DataW.trod_struct Try.underlying31 hf
  have t0 := hx 0 _ rfl
  have t1 := hx 1 _ rfl
  have t2 := hx 2 _ rfl
  have t3 := hx 3 _ rfl
  have t4 := hx 4 _ rfl
  have t5 := hx 5 _ rfl
  have t6 := hx 6 _ rfl
  have t7 := hx 7 _ rfl
  have t8 := hx 8 _ rfl
  have t9 := hx 9 _ rfl
  have t10 := hx 10 _ rfl
  match xs, hl with
  | [y0, y1, y2, y3, y4, y5, y6, y7, y8, y9, y10], _ =>
  simp only [List.getElem_toArray, List.getElem_cons_zero, List.getElem_cons_succ, List.getElem?_cons_zero, List.getElem?_cons_succ] at t0 t1 t2 t3 t4 t5 t6 t7 t8 t9 t10
  rw [show Try.prog.cellsOf 5 = 1 by kernel_rfl] at t0
  rw [show Try.prog.cellsOf 3 = 1 by kernel_rfl] at t1 t2 t3 t4 t5
  rw [show Try.prog.cellsOf 26 = 12 by kernel_rfl] at t6
  rw [show Try.prog.cellsOf 4 = 1 by kernel_rfl] at t7
  rw [show Try.prog.cellsOf 27 = 1 by kernel_rfl] at t8
  rw [show Try.prog.cellsOf 29 = 3 by kernel_rfl] at t9
  rw [show Try.prog.cellsOf 22 = 1 by kernel_rfl] at t10
  simp only [List.drop_succ_cons, List.drop_zero, List.take_succ_cons, List.take_zero] at t0 t1 t2 t3 t4 t5 t6 t7 t8 t9 t10
  obtain ⟨a0, q0, _, v0⟩ := DataW.trod_int Try.underlying5 t0
  obtain ⟨a1, q1, _, _⟩ := DataW.trod_int Try.underlying3 t1
  obtain ⟨a2, q2, _, _⟩ := DataW.trod_int Try.underlying3 t2
  obtain ⟨a3, q3, _, _⟩ := DataW.trod_int Try.underlying3 t3
  obtain ⟨a4, q4, _, _⟩ := DataW.trod_int Try.underlying3 t4
  obtain ⟨a5, q5, _, _⟩ := DataW.trod_int Try.underlying3 t5
  obtain ⟨b7, q7, _⟩ := DataW.trod_bool Try.underlying4 t7
  obtain ⟨z0, z1, z2, m9, _, _, s0, s1, s2⟩ := trod_struct3 Try.underlying29 t9
  dsimp only at s0 s1 s2
  rw [show Try.prog.cellsOf 4 = 1 by kernel_rfl] at s0
  rw [show Try.prog.cellsOf 3 = 1 by kernel_rfl] at s1 s2
  simp only [List.drop_succ_cons, List.drop_zero, List.take_succ_cons, List.take_zero] at s0 s1 s2
  obtain ⟨b9, r0, _⟩ := DataW.trod_bool Try.underlying4 s0
  obtain ⟨f1, r1, _, _⟩ := DataW.trod_int Try.underlying3 s1
  obtain ⟨f2, r2, _, _⟩ := DataW.trod_int Try.underlying3 s2
  simp only [List.cons.injEq, and_true] at q0 q1 q2 q3 q4 q5 q7 r0 r1 r2
  obtain ⟨g0, X0, n0, d0, e0, g1, X1, n1, d1, e1, g2, X2, n2, d2, e2, g3, X3, n3, d3, e3, m, h0, h1, h2, h3, h4, h5, h6, h7, h8, h9, h10, h11, hr, hlt⟩ := mass_at t6
  obtain ⟨D, dn, dc, dl, qd, _, hd⟩ := tms_at t8
  obtain ⟨L, ln, lc, zs, ql, _, hzl, hR, hwf⟩ := open_field Try.underlying22 Try.underlying52 (by kernel_rfl) t10
  rw [ints_of (fun z hz => (u32_range (hwf z hz)).1)] at hR
  obtain rfl := hd.1
  obtain rfl := hzl
  obtain ⟨i1, i2, i3, i4, i5⟩ := hr.1
  obtain ⟨j1, j2, j3, j4, j5⟩ := hr.2.1
  obtain ⟨k1, k2, k3, k4, k5⟩ := hr.2.2.1
  obtain ⟨l1, l2, l3, l4, l5⟩ := hr.2.2.2
  subst i1 i2 i3 j1 j2 j3 k1 k2 k3 l1 l2 l3
  refine ⟨⟨⟨a0, a1, a2, a3, a4, a5, m, b7, dl, b9, f1, f2, zs.map Int.toNat⟩, X0, d0, X1, d1, X2, d2, X3, d3, D, dc, L, lc⟩, ?_, ⟨hr, hd, by simpa using hR⟩, ⟨hlt, fun x hx => ?_⟩, u8_range v0⟩
  · subst q0 q1 q2 q3 q4 q5 h0 h1 h2 h3 h4 h5 h6 h7 h8 h9 h10 h11 q7 qd r0 r1 r2 ql
    simp [aggL]
  · obtain ⟨z, hz', rfl⟩ := List.mem_map.1 hx
    have := u32_range (hwf z hz')
    omega
set_option maxRecDepth 100000 in
theorem open_mail {r : Reach} {b0 : Nat} {v : Value} {d : DataW H} {p : List MemPlace} (hv : Value.okWide Try.prog w r b0 31 v) (h : DataW.Trod enc Try.prog w 0 (fun _ => true) true 31 v d p) :
    ∃ o : MO, v = aggL o ∧ rdL w w.heap.size o ∧ ltL o.x ∧ (0 ≤ o.x.kd ∧ o.x.kd < 256) := by
  have hC : Try.prog.cellsOf 31 = 24 := by kernel_rfl
  obtain ⟨cs, rfl, hsz⟩ := okWide_struct Try.underlying31 hv
  obtain ⟨l⟩ := cs
  match l, hsz.trans hC with
  | [c0, c1, c2, c3, c4, c5, c6, c7, c8, c9, c10, c11, c12, c13, c14, c15, c16, c17, c18, c19, c20, c21, c22, c23], _ =>
    obtain ⟨fuel, hf⟩ := h
    exact mail_at (by simpa [Value.cells] using hf)
end
end Go.Proofs.Ytjmhefkmpfkpbaa
