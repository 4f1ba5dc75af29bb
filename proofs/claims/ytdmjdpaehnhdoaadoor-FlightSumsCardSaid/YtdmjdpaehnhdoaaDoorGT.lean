/- Flight's Door: an argument that is a mail, opened -/
import Derived.Test.YtdmjdpaehnhdoaaDoorGAB
import Derived.Test.YtdmjdpaehnhdoaaDoorFAO
import Derived.Deep.SlicePairs
import Derived.Lib.SmallJoins
namespace Go.Proofs.YtdmjdpaehnhdoaaDoor
open Go.ChangeShapes Go.WideShapes Go.ChangeAt Go.RowKit Go.Joins Go.Deep
set_option linter.unusedSimpArgs false
set_option linter.unusedVariables false
section
variable {H : Type} {enc : TypeId × Value → H} {w : World}
theorem tms_at {n0 : Nat} {v : Value} {y : DataW H × List MemPlace} (hf : DataW.trod enc Tryd.prog w 0 (fun _ => true) true n0 28 [v] = some y) :
    ∃ (A : Option Addr) (n c : Nat) (l : List Tm), v = .slice A n c ∧ n ≤ c ∧ Tms w w.heap.size A n l := by
  rcases open_slice_pairs Tryd.underlying28 Tryd.underlying99 (by kernel_rfl) rfl rfl (by kernel_rfl) (by kernel_rfl) hf with ⟨hcs, _⟩ | ⟨a, len, cap, m, n, V0, V1, D0, D1, P0, P1, hcs, _, hl, hm, hmm, _, hx⟩
  · simp only [List.cons.injEq, and_true] at hcs
    subst hcs
    exact ⟨none, 0, 0, [], rfl, Nat.le_refl _, Tms.none_⟩
  · simp only [List.cons.injEq, and_true] at hcs
    subst hcs
    have hlm : len ≤ m := by rw [hmm]; split <;> omega
    have each : ∀ i : Nat, ∃ t : Tm, i < len → w.cell? (a.add (i * 2)) = some (.int .i64 t.1) ∧ w.cell? (a.add (i * 2 + 1)) = some (.int .i64 t.2) := by
      intro i
      by_cases hi : i < len
      · obtain ⟨h0, h1, t0, t1⟩ := hx i (by omega)
        obtain ⟨x, e0, _, _⟩ := DataW.trod_int Tryd.underlying3 t0
        obtain ⟨y, e1, _, _⟩ := DataW.trod_int Tryd.underlying3 t1
        simp only [List.cons.injEq, and_true] at e0 e1
        rw [e0] at h0
        rw [e1] at h1
        exact ⟨(x, y), fun _ => ⟨h0, h1⟩⟩
      · exact ⟨(0, 0), fun h => absurd h hi⟩
    obtain ⟨F, hF⟩ := Classical.axiomOfChoice each
    refine ⟨some a, len, cap, (List.range len).map F, rfl, hl, by simp, by rw [T2_len]; simp, fun h0 => ⟨a, rfl, ?_, fun j u hu => ?_⟩⟩
    · have := World.block_lt_of_cell? w _ (hF 0 h0).1
      rwa [block_of_add] at this
    · have hj : j < len * 2 := by
        have := (List.getElem?_eq_some_iff.1 hu).1
        rw [T2_len] at this
        simpa using this
      have hat : ((List.range len).map F)[j / 2]? = some (F (j / 2)) := by
        rw [List.getElem?_map, List.getElem?_range (by omega)]
        rfl
      obtain ⟨e0, e1⟩ := T2_at _ _ _ hat
      obtain ⟨c0, c1⟩ := hF (j / 2) (by omega)
      rcases Nat.mod_two_eq_zero_or_one j with h2 | h2
      · have e : j = j / 2 * 2 := by omega
        rw [← e] at e0 c0
        rw [e0] at hu
        injection hu with hu
        rw [c0, hu]
      · have e : j = j / 2 * 2 + 1 := by omega
        rw [← e] at e1 c1
        rw [e1] at hu
        injection hu with hu
        rw [c1, hu]
set_option maxRecDepth 100000 in
set_option maxHeartbeats 4000000 in
theorem mail_at {n0 : Nat} {c0 c1 c2 c3 c4 c5 c6 c7 c8 c9 c10 c11 c12 c13 c14 c15 c16 c17 c18 c19 c20 c21 c22 c23 : Value} {y : DataW H × List MemPlace} (hf : DataW.trod enc Tryd.prog w 0 (fun _ => true) true n0 32 [c0, c1, c2, c3, c4, c5, c6, c7, c8, c9, c10, c11, c12, c13, c14, c15, c16, c17, c18, c19, c20, c21, c22, c23] = some y) :
    ∃ o : MO, .agg #[c0, c1, c2, c3, c4, c5, c6, c7, c8, c9, c10, c11, c12, c13, c14, c15, c16, c17, c18, c19, c20, c21, c22, c23] = aggL o ∧ rdL w w.heap.size o := by
  obtain ⟨xs, n, _, _, _, hl, hx⟩ := DataW.trod_struct Tryd.underlying32 hf
  have t0 := hx 0 _ rfl
  have t1 := hx 1 _ rfl
  have t2 := hx 2 _ rfl
  have t3 := hx 3 _ rfl
  have t4 := hx 4 _ rfl
  have t5 := hx 5 _ rfl
  have t6 := hx 6 _ rfl
  have t7 := hx 7 _ rfl
  have t8 := hx 8 _ rfl
  have t9 := hx 9 _ rfl
  have t10 := hx 10 _ rfl
  match xs, hl with
  | [y0, y1, y2, y3, y4, y5, y6, y7, y8, y9, y10], _ =>
  simp only [List.getElem_toArray, List.getElem_cons_zero, List.getElem_cons_succ, List.getElem?_cons_zero, List.getElem?_cons_succ] at t0 t1 t2 t3 t4 t5 t6 t7 t8 t9 t10
  rw [show Tryd.prog.cellsOf 5 = 1 by kernel_rfl] at t0
  rw [show Tryd.prog.cellsOf 3 = 1 by kernel_rfl] at t1 t2 t3 t4 t5
  rw [show Tryd.prog.cellsOf 27 = 12 by kernel_rfl] at t6
  rw [show Tryd.prog.cellsOf 4 = 1 by kernel_rfl] at t7
  rw [show Tryd.prog.cellsOf 28 = 1 by kernel_rfl] at t8
  rw [show Tryd.prog.cellsOf 30 = 3 by kernel_rfl] at t9
  rw [show Tryd.prog.cellsOf 23 = 1 by kernel_rfl] at t10
  simp only [List.drop_succ_cons, List.drop_zero, List.take_succ_cons, List.take_zero] at t0 t1 t2 t3 t4 t5 t6 t7 t8 t9 t10
  obtain ⟨a0, q0, _, v0⟩ := DataW.trod_int Tryd.underlying5 t0
  obtain ⟨a1, q1, _, _⟩ := DataW.trod_int Tryd.underlying3 t1
  obtain ⟨a2, q2, _, _⟩ := DataW.trod_int Tryd.underlying3 t2
  obtain ⟨a3, q3, _, _⟩ := DataW.trod_int Tryd.underlying3 t3
  obtain ⟨a4, q4, _, _⟩ := DataW.trod_int Tryd.underlying3 t4
  obtain ⟨a5, q5, _, _⟩ := DataW.trod_int Tryd.underlying3 t5
  obtain ⟨b7, q7, _⟩ := DataW.trod_bool Tryd.underlying4 t7
  obtain ⟨z0, z1, z2, m9, _, _, s0, s1, s2⟩ := trod_struct3 Tryd.underlying30 t9
  dsimp only at s0 s1 s2
  rw [show Tryd.prog.cellsOf 4 = 1 by kernel_rfl] at s0
  rw [show Tryd.prog.cellsOf 3 = 1 by kernel_rfl] at s1 s2
  simp only [List.drop_succ_cons, List.drop_zero, List.take_succ_cons, List.take_zero] at s0 s1 s2
  obtain ⟨b9, r0, _⟩ := DataW.trod_bool Tryd.underlying4 s0
  obtain ⟨f1, r1, _, _⟩ := DataW.trod_int Tryd.underlying3 s1
  obtain ⟨f2, r2, _, _⟩ := DataW.trod_int Tryd.underlying3 s2
  simp only [List.cons.injEq, and_true] at q0 q1 q2 q3 q4 q5 q7 r0 r1 r2
  obtain ⟨g0, X0, n0, d0, e0, g1, X1, n1, d1, e1, g2, X2, n2, d2, e2, g3, X3, n3, d3, e3, m, h0, h1, h2, h3, h4, h5, h6, h7, h8, h9, h10, h11, hr, hlt⟩ := mass_at t6
  obtain ⟨D, dn, dc, dl, qd, _, hd⟩ := tms_at t8
  obtain ⟨L, ln, lc, zs, ql, _, hzl, hR, hwf⟩ := open_field Tryd.underlying23 Tryd.underlying71 (by kernel_rfl) t10
  rw [ints_of (fun z hz => (u32_range (hwf z hz)).1)] at hR
  obtain rfl := hd.1
  obtain rfl := hzl
  obtain ⟨i1, i2, i3, i4, i5⟩ := hr.1
  obtain ⟨j1, j2, j3, j4, j5⟩ := hr.2.1
  obtain ⟨k1, k2, k3, k4, k5⟩ := hr.2.2.1
  obtain ⟨l1, l2, l3, l4, l5⟩ := hr.2.2.2
  subst i1 i2 i3 j1 j2 j3 k1 k2 k3 l1 l2 l3
  refine ⟨⟨⟨a0, a1, a2, a3, a4, a5, m, b7, dl, b9, f1, f2, zs.map Int.toNat⟩, X0, d0, X1, d1, X2, d2, X3, d3, D, dc, L, lc⟩, ?_, ⟨hr, hd, by simpa using hR⟩⟩
  subst q0 q1 q2 q3 q4 q5 h0 h1 h2 h3 h4 h5 h6 h7 h8 h9 h10 h11 q7 qd r0 r1 r2 ql
  simp [aggL]
set_option maxRecDepth 100000 in
theorem open_mail {r : Reach} {b0 : Nat} {v : Value} {d : DataW H} {p : List MemPlace} (hv : Value.okWide Tryd.prog w r b0 32 v) (h : DataW.Trod enc Tryd.prog w 0 (fun _ => true) true 32 v d p) :
    ∃ o : MO, v = aggL o ∧ rdL w w.heap.size o := by
  have hC : Tryd.prog.cellsOf 32 = 24 := by kernel_rfl
  obtain ⟨cs, rfl, hsz⟩ := okWide_struct Tryd.underlying32 hv
  obtain ⟨l⟩ := cs
  match l, hsz.trans hC with
  | [c0, c1, c2, c3, c4, c5, c6, c7, c8, c9, c10, c11, c12, c13, c14, c15, c16, c17, c18, c19, c20, c21, c22, c23], _ =>
    obtain ⟨fuel, hf⟩ := h
    exact mail_at (by simpa [Value.cells] using hf)
end
end Go.Proofs.YtdmjdpaehnhdoaaDoor
