/- Timer: an argument that is a row of timers, opened -/
import Derived.Test.YthageikchniahaaTA
import Derived.Deep.SlicePairs
namespace Go.Proofs.Ythageikchniahaa
open Go.ChangeShapes Go.WideShapes Go.ChangeAt Go.RowKit
set_option linter.unusedSimpArgs false
set_option linter.unusedVariables false

open Go.Deep
theorem open_tms {H : Type} {enc : TypeId × Value → H} {W : World} {r : Reach} {b0 : Nat} {v : Value} {d : DataW H} {p : List MemPlace} (hv : Value.okWide Try.prog W r b0 22 v) (h : DataW.Trod enc Try.prog W 0 (fun _ => true) true 22 v d p) :
    ∃ (A : Option Addr) (n c : Nat) (l : List Tm), v = .slice A n c ∧ n ≤ c ∧ c ≤ maxLen ∧ Tms W W.heap.size A n l := by
  obtain ⟨a0, len, cap, rfl⟩ := okWide_slice Try.underlying22 hv
  obtain ⟨fuel, hf⟩ := h
  rcases open_slice_pairs Try.underlying22 Try.underlying35 (by kernel_rfl) rfl rfl (by kernel_rfl) (by kernel_rfl) hf with ⟨hcs, _⟩ | ⟨a, len', cap', m, n, V0, V1, D0, D1, P0, P1, hcs, _, hl, hm, hmm, _, hx⟩
  · simp [Value.cells] at hcs
    obtain ⟨rfl, rfl, rfl⟩ := hcs
    exact ⟨none, 0, 0, [], rfl, Nat.le_refl _, Nat.zero_le _, Tms.none_⟩
  · simp [Value.cells] at hcs
    obtain ⟨rfl, rfl, rfl⟩ := hcs
    have hlm : len ≤ m := by rw [hmm]; split <;> omega
    have each : ∀ i : Nat, ∃ t : Tm, i < len → W.cell? (a.add (i * 2)) = some (.int .i64 t.1) ∧ W.cell? (a.add (i * 2 + 1)) = some (.int .i64 t.2) := by
      intro i
      by_cases hi : i < len
      · obtain ⟨h0, h1, t0, t1⟩ := hx i (by omega)
        obtain ⟨x, e0, _, _⟩ := DataW.trod_int Try.underlying3 t0
        obtain ⟨y, e1, _, _⟩ := DataW.trod_int Try.underlying3 t1
        simp only [List.cons.injEq, and_true] at e0 e1
        rw [e0] at h0
        rw [e1] at h1
        exact ⟨(x, y), fun _ => ⟨h0, h1⟩⟩
      · exact ⟨(0, 0), fun h => absurd h hi⟩
    obtain ⟨F, hF⟩ := Classical.axiomOfChoice each
    refine ⟨some a, len, cap, (List.range len).map F, rfl, hl, hm, by simp, by rw [T2_len]; simp, fun h0 => ⟨a, rfl, ?_, fun j u hu => ?_⟩⟩
    · have := World.block_lt_of_cell? W _ (hF 0 h0).1
      rwa [block_of_add] at this
    · have hj : j < len * 2 := by
        have := (List.getElem?_eq_some_iff.1 hu).1
        rw [T2_len] at this
        simpa using this
      have hat : ((List.range len).map F)[j / 2]? = some (F (j / 2)) := by
        rw [List.getElem?_map, List.getElem?_range (by omega)]
        rfl
      obtain ⟨e0, e1⟩ := T2_at _ _ _ hat
      obtain ⟨c0, c1⟩ := hF (j / 2) (by omega)
      rcases Nat.mod_two_eq_zero_or_one j with h2 | h2
      · have e : j = j / 2 * 2 := by omega
        rw [← e] at e0 c0
        rw [e0] at hu
        injection hu with hu
        rw [c0, hu]
      · have e : j = j / 2 * 2 + 1 := by omega
        rw [← e] at e1 c1
        rw [e1] at hu
        injection hu with hu
        rw [c1, hu]
end Go.Proofs.Ythageikchniahaa
