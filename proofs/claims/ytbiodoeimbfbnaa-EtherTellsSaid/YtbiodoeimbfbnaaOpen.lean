/- Ether: an argument that is a row of copies, and one that is a copy, opened. -/
import Derived.Test.YtbiodoeimbfbnaaF
import Derived.Lib.SmallJoins
namespace Go.Proofs.Ytbiodoeimbfbnaa
open Go.ChangeShapes Go.WideShapes Go.ChangeAt Go.RowKit Go.Joins Go.Deep
set_option linter.unusedVariables false
theorem u8_range {x : Int} (h : (Lit.int .u8 x).wf = true) : 0 ≤ x ∧ x < 256 := by
  simp [Lit.wf, IntKind.min, IntKind.max, IntKind.signed, IntKind.bits] at h
  omega
theorem u32_range {x : Int} (h : (Lit.int .u32 x).wf = true) : 0 ≤ x ∧ x < 4294967296 := by
  simp [Lit.wf, IntKind.min, IntKind.max, IntKind.signed, IntKind.bits] at h
  omega
section
variable {H : Type} {enc : TypeId × Value → H} {P : Program} {w : World}
/-- A field that is a slice of integers. -/
theorem open_field {n0 : Nat} {t e : TypeId} {k : IntKind} {v : Value} {y : DataW H × List MemPlace} (ht : P.underlying t = some (.slice e)) (he : P.underlying e = some (.int k)) (hc : P.cellsOf e = 1)
    (hf : DataW.trod enc P w 0 (fun _ => true) true n0 t [v] = some y) :
    ∃ (A : Option Addr) (n c : Nat) (zs : List Int), v = .slice A n c ∧ n ≤ c ∧ zs.length = n ∧ Reads w w.heap.size 1 A n (zs.map (Value.int k)) ∧ ∀ z ∈ zs, (Lit.int k z).wf = true := by
  rcases open_ints ht he hc hf with ⟨hcs, _⟩ | ⟨a, len', cap', zs, hcs, _, hl, hm, hz, _, hcell, hwf⟩
  · simp only [List.cons.injEq, and_true] at hcs
    subst hcs
    exact ⟨none, 0, 0, [], rfl, Nat.le_refl _, rfl, Reads.none_, by simp⟩
  · simp only [List.cons.injEq, and_true] at hcs
    subst hcs
    simp only [if_true] at hz
    refine ⟨some a, len', cap', zs.take len', rfl, hl, by simp; omega, ⟨by simp; omega, fun hn => ⟨a, rfl, ?_, ?_⟩⟩, fun z hz' => hwf z (List.mem_of_mem_take hz')⟩
    · have := World.block_lt_of_cell? w _ (hcell 0 (by omega))
      rwa [block_of_add] at this
    · intro j u hu
      rw [List.getElem?_map, List.getElem?_take] at hu
      split at hu
      · rename_i hj
        have hj' : j < zs.length := by omega
        rw [hcell j hj', List.getD_eq_getElem?_getD]
        rw [List.getElem?_eq_getElem hj'] at hu ⊢
        simpa using hu
      · simp at hu
theorem copy_of {n0 : Nat} {t tn tt te tb : TypeId} {f0 f1 f2 f3 : Field} {c0 c1 c2 c3 : Value} {y : DataW H × List MemPlace} (hs : P.underlying t = some (.struct #[f0, f1, f2, f3])) (hone : oneCellFields P #[f0, f1, f2, f3] = true)
    (e0 : f0.type = tn) (e1 : f1.type = tn) (e2 : f2.type = tt) (e3 : f3.type = tb) (hn : P.underlying tn = some (.int .i64)) (htt : P.underlying tt = some (.slice te)) (hte : P.underlying te = some (.int .u8)) (hce : P.cellsOf te = 1) (hb : P.underlying tb = some .bool)
    (hf : DataW.trod enc P w 0 (fun _ => true) true n0 t [c0, c1, c2, c3] = some y) :
    ∃ (num dn : Int) (txt : List Nat) (sp : Bool) (X : Option Addr) (m d : Nat), c0 = .int .i64 num ∧ c1 = .int .i64 dn ∧ c2 = .slice X m d ∧ c3 = .bool sp ∧ txt.length = m ∧ m ≤ d ∧ Reads w w.heap.size 1 X m (ints .u8 txt) ∧ ∀ b ∈ txt, b < 256 := by
  obtain ⟨y0, y1, y2, y3, n, _, _, t0, t1, t2, t3⟩ := trod_struct4 hs hf
  obtain ⟨o0, k0⟩ := hone_of hone 0 f0 rfl
  obtain ⟨o1, k1⟩ := hone_of hone 1 f1 rfl
  obtain ⟨o2, k2⟩ := hone_of hone 2 f2 rfl
  obtain ⟨o3, k3⟩ := hone_of hone 3 f3 rfl
  rw [o0, k0, e0] at t0
  rw [o1, k1, e1] at t1
  rw [o2, k2, e2] at t2
  rw [o3, k3, e3] at t3
  simp only [List.drop_succ_cons, List.drop_zero, List.take_succ_cons, List.take_zero] at t0 t1 t2 t3
  obtain ⟨a0, q0, _, w0⟩ := DataW.trod_int hn t0
  obtain ⟨a1, q1, _, w1⟩ := DataW.trod_int hn t1
  obtain ⟨A, m, c, zs, rfl, hmc, hz, hR, hwf⟩ := open_field htt hte hce t2
  obtain ⟨b, q3, _⟩ := DataW.trod_bool hb t3
  simp only [List.cons.injEq, and_true] at q0 q1 q3
  rw [ints_of (fun z hz => (u8_range (hwf z hz)).1)] at hR
  exact ⟨a0, a1, zs.map Int.toNat, b, A, m, c, q0, q1, rfl, q3, by simpa using hz, hmc, hR, fun y hy => by obtain ⟨z, hz, rfl⟩ := List.mem_map.1 hy; have := u8_range (hwf z hz); omega⟩
/-- An argument that is a row of copies. -/
theorem open_cps {r : Reach} {b0 : Nat} {ts t tn tt te tb : TypeId} {f0 f1 f2 f3 : Field} {v : Value} {d : DataW H} {p : List MemPlace} (hsl : P.underlying ts = some (.slice t)) (hs : P.underlying t = some (.struct #[f0, f1, f2, f3])) (hone : oneCellFields P #[f0, f1, f2, f3] = true) (hC : P.cellsOf t = 4)
    (e0 : f0.type = tn) (e1 : f1.type = tn) (e2 : f2.type = tt) (e3 : f3.type = tb) (hn : P.underlying tn = some (.int .i64)) (htt : P.underlying tt = some (.slice te)) (hte : P.underlying te = some (.int .u8)) (hce : P.cellsOf te = 1) (hb : P.underlying tb = some .bool)
    (hv : Value.okWide P w r b0 ts v) (h : DataW.Trod enc P w 0 (fun _ => true) true ts v d p) :
    ∃ (A : Option Addr) (n c : Nat) (l : List Cp), v = .slice A n c ∧ n ≤ c ∧ c ≤ maxLen ∧ Cps w w.heap.size A n l ∧ ∀ x ∈ l, ∀ b ∈ x.txt, b < 256 := by
  obtain ⟨a0, len, cap, rfl⟩ := okWide_slice hsl hv
  obtain ⟨fuel, hf⟩ := h
  rcases DataW.trod_slice hsl hf with ⟨hcs, _⟩ | ⟨a, len', cap', elems, rest, n, _, hcs, _, _, hl, hm, hlen, hel, _, _⟩
  · simp [Value.cells] at hcs
    obtain ⟨rfl, rfl, rfl⟩ := hcs
    exact ⟨none, 0, 0, [], rfl, Nat.le_refl _, Nat.zero_le _, Recs.none_, by simp⟩
  · simp [Value.cells] at hcs
    obtain ⟨rfl, rfl, rfl⟩ := hcs
    have each : ∀ i, i < len → ∃ c : Cp, (∀ b ∈ c.txt, b < 256) ∧ ∀ j f, (fds c)[j]? = some f → RdF w w.heap.size (a.add (i * 4 + j)) f := by
      intro i hi
      have hE := hel i hi
      rw [List.getElem?_eq_getElem (by omega), Option.bind_eq_some_iff] at hE
      obtain ⟨cs, hc1, hy⟩ := hE
      rw [hC] at hc1
      obtain ⟨_, hcl, hcc⟩ := World.cells?_some hc1
      match cs, hcl with
      | [c0, c1, c2, c3], _ =>
        obtain ⟨num, dn, txt, sp, X, m, d, rfl, rfl, rfl, rfl, hm1, hm2, hR, hby⟩ := copy_of hs hone e0 e1 e2 e3 hn htt hte hce hb hy
        have g0 := hcc 0 (by omega)
        have g1 := hcc 1 (by omega)
        have g2 := hcc 2 (by omega)
        have g3 := hcc 3 (by omega)
        rw [add_of_add] at g0 g1 g2 g3
        refine ⟨⟨num, dn, txt, sp⟩, hby, fun j f hf => ?_⟩
        match j, hf with
        | 0, hf => injection hf with hf; subst hf; exact g0
        | 1, hf => injection hf with hf; subst hf; exact g1
        | 2, hf => injection hf with hf; subst hf; exact ⟨X, m, d, hm1, hm2, hR, g2⟩
        | 3, hf => injection hf with hf; subst hf; exact g3
        | j + 4, hf => simp [fds] at hf
    have ex : ∀ k, k ≤ len → ∃ l : List Cp, l.length = k ∧ ∀ i c, l[i]? = some c → (∀ b ∈ c.txt, b < 256) ∧ ∀ j f, (fds c)[j]? = some f → RdF w w.heap.size (a.add (i * 4 + j)) f := by
      intro k
      induction k with
      | zero => exact fun _ => ⟨[], rfl, by simp⟩
      | succ k ih =>
        intro hk
        obtain ⟨l, hl, hr⟩ := ih (by omega)
        obtain ⟨c, hc⟩ := each k (by omega)
        refine ⟨l ++ [c], by simp [hl], fun i x hx => ?_⟩
        rw [List.getElem?_append] at hx
        split at hx
        · exact hr i x hx
        · rename_i hi
          have : i = k := by
            rcases Nat.lt_or_ge k i with h | h
            · rw [List.getElem?_eq_none (by simp; omega)] at hx; cases hx
            · omega
          subst this
          rw [hl, Nat.sub_self] at hx
          injection hx with hx
          subst hx
          exact hc
    obtain ⟨l, hll, hr⟩ := ex len (Nat.le_refl _)
    refine ⟨some a, len, cap, l, rfl, hl, hm, ⟨by simpa using hll, fun h0 => ⟨a, rfl, ?_, fun i r hr' j f hf => ?_⟩⟩, fun x hx b hb => ?_⟩
    · obtain ⟨c, _, hc⟩ := each 0 h0
      have := World.block_lt_of_cell? w _ (hc 0 _ rfl)
      rwa [block_of_add] at this
    · rw [List.getElem?_map] at hr'
      obtain ⟨c, hc, rfl⟩ := Option.map_eq_some_iff.1 hr'
      exact (hr i c hc).2 j f hf
    · obtain ⟨i, hi⟩ := List.getElem?_of_mem hx
      exact (hr i x hi).1 b hb
/-- An argument that is a copy. -/
theorem open_cp {r : Reach} {b0 : Nat} {t tn tt te tb : TypeId} {f0 f1 f2 f3 : Field} {v : Value} {d : DataW H} {p : List MemPlace} (hs : P.underlying t = some (.struct #[f0, f1, f2, f3])) (hone : oneCellFields P #[f0, f1, f2, f3] = true) (hC : P.cellsOf t = 4)
    (e0 : f0.type = tn) (e1 : f1.type = tn) (e2 : f2.type = tt) (e3 : f3.type = tb) (hn : P.underlying tn = some (.int .i64)) (htt : P.underlying tt = some (.slice te)) (hte : P.underlying te = some (.int .u8)) (hce : P.cellsOf te = 1) (hb : P.underlying tb = some .bool)
    (hv : Value.okWide P w r b0 t v) (h : DataW.Trod enc P w 0 (fun _ => true) true t v d p) :
    ∃ (num dn : Int) (txt : List Nat) (sp : Bool) (X : Option Addr) (m d : Nat), v = .agg #[.int .i64 num, .int .i64 dn, .slice X m d, .bool sp] ∧ txt.length = m ∧ m ≤ d ∧ Reads w w.heap.size 1 X m (ints .u8 txt) ∧ ∀ b ∈ txt, b < 256 := by
  obtain ⟨cs, rfl, hsz⟩ := okWide_struct hs hv
  obtain ⟨l⟩ := cs
  match l, hsz.trans hC with
  | [c0, c1, c2, c3], _ =>
    obtain ⟨fuel, hf⟩ := h
    obtain ⟨num, dn, txt, sp, X, m, d, rfl, rfl, rfl, rfl, h1, h2, h3, h4⟩ := copy_of hs hone e0 e1 e2 e3 hn htt hte hce hb (by simpa [Value.cells] using hf)
    exact ⟨num, dn, txt, sp, X, m, d, rfl, h1, h2, h3, h4⟩
end
end Go.Proofs.Ytbiodoeimbfbnaa
