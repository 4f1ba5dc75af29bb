/- Frame: arguments that are bytes, or slices of bytes, opened. -/
import Derived.Test.YtceggbbichfjnaaSumW
namespace Go.Proofs.Ytceggbbichfjnaa
open Go.ChangeShapes Go.WideShapes Go.ChangeAt Go.RowKit
theorem u8_nat {a : Int} (h : (Lit.int .u8 a).wf = true) : ∃ x : Nat, x < 256 ∧ a = x := by
  have hb : 0 ≤ a ∧ a ≤ 255 := by simpa [Lit.wf, IntKind.min, IntKind.max, IntKind.signed, IntKind.bits] using h
  exact ⟨a.toNat, by omega, by omega⟩
theorem u32_nat {a : Int} (h : (Lit.int .u32 a).wf = true) : ∃ x : Nat, x < 4294967296 ∧ a = x := by
  have hb : 0 ≤ a ∧ a ≤ 4294967295 := by simpa [Lit.wf, IntKind.min, IntKind.max, IntKind.signed, IntKind.bits] using h
  exact ⟨a.toNat, by omega, by omega⟩
section
variable {H : Type} {enc : TypeId × Value → H} {P : Program} {w : World}
theorem open_bytes {r : Reach} {b0 : Nat} {t e : TypeId} {v : Value} {d : DataW H} {p : List MemPlace} (ht : P.underlying t = some (.slice e)) (he : P.underlying e = some (.int .u8)) (hc : P.cellsOf e = 1)
    (hv : Value.okWide P w r b0 t v) (h : DataW.Trod enc P w 0 (fun _ => true) true t v d p) :
    ∃ (A : Option Addr) (n c : Nat) (l : List Nat), v = .slice A n c ∧ n ≤ c ∧ c ≤ maxLen ∧ l.length = n ∧ (∀ b ∈ l, b < 256) ∧ Reads w w.heap.size 1 A n (bytes l) := by
  obtain ⟨A, n, c, zs, rfl, h1, h2, h3, h4, h5⟩ := open_reads ht he hc hv h
  refine ⟨A, n, c, zs.map Int.toNat, rfl, h1, h2, by simpa using h3, ?_, ?_⟩
  · intro b hb
    simp only [List.mem_map] at hb
    obtain ⟨z, hz, rfl⟩ := hb
    obtain ⟨x, hx, rfl⟩ := u8_nat (h5 z hz)
    simpa using hx
  · have e : bytes (zs.map Int.toNat) = zs.map (Value.int .u8) := by
      unfold bytes
      rw [List.map_map]
      apply List.map_congr_left
      intro z hz
      obtain ⟨x, hx, rfl⟩ := u8_nat (h5 z hz)
      simp
    rw [e]
    exact h4
end
end Go.Proofs.Ytceggbbichfjnaa
