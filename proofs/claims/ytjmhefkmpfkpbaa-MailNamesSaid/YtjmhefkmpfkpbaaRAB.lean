/- Mail: mail.Read | Mail: what was written is read (plain) | Frame: arguments that are bytes, or slices of bytes, opened. -/
import Derived.Test.YtjmhefkmpfkpbaaPXR
import Derived.Test.YtjmhefkmpfkpbaaPY0
import Derived.Test.YtjmhefkmpfkpbaaPY1
import Derived.Test.YtjmhefkmpfkpbaaPY2
import Derived.Test.YtjmhefkmpfkpbaaPY3
import Derived.Test.YtjmhefkmpfkpbaaPY4
import Derived.Test.YtjmhefkmpfkpbaaPY5
import Derived.Test.YtjmhefkmpfkpbaaPY6
import Derived.Test.YtjmhefkmpfkpbaaPST
import Derived.Test.YtjmhefkmpfkpbaaSumW
namespace Go.Proofs.Ytjmhefkmpfkpbaa
open Go.ChangeShapes Go.WideShapes Go.ChangeAt Go.RowKit
set_option linter.unusedSimpArgs false
set_option linter.unusedVariables false
theorem read_any (A : Option Addr) (n c : Nat) (b : List Nat) (hn : b.length = n) (hm : n ≤ 10000) (hc : n ≤ c) (hl : ∀ x ∈ b, x < 256) (w : World) (hR : Reads w w.heap.size 1 A n (bytes b)) :
    Calls Try.prog 14 #[.slice A n c] w (ReadP b w) := by
  have ht := fun V (h : Below w.heap.size w V) => take_e A n c b hn hm hc hl V ((hR.below h).more h.size)
  by_cases hE : tkE b = 0
  · have hcl : ∀ x ∈ content b, x < 256 := fun x hx => hl x (List.mem_of_mem_drop (List.mem_of_mem_take hx))
    have hcm : (content b).length ≤ 100000 := by unfold content; rw [List.length_take]; omega
    have hk : b.getD 2 0 < 256 := by
      have h9 := (tkE_ok hE).1
      rw [List.getD_eq_getElem?_getD, List.getElem?_eq_getElem (by omega)]
      exact hl _ (List.getElem_mem _)
    have hcall : ∀ V, Below w.heap.size w V → Calls Try.prog 23 #[.slice A n c] V fun en w' => (∃ A' n' c', en = .returned (.tuple #[.int .u8 ((b.getD 2 0 : Nat) : Int), .slice A' n' c', .int .i64 0]) ∧ n' = (content b).length ∧ n' ≤ c' ∧ Reads w' w'.heap.size 1 A' n' (bytes (content b))) ∧ Below V.heap.size V w' := fun V h => (ht V h).mono fun en w' hh => ⟨by
      rcases hh.1 with ⟨h1, _⟩ | ⟨_, h2⟩
      · exact absurd hE h1
      · exact h2, hh.2⟩
    have key : Calls Try.prog 14 #[.slice A n c] w (RdP ((b.getD 2 0 : Nat) : Int) ((content b).map Int.ofNat) w) := by
      by_cases h1 : b.getD 2 0 = 1
      · rw [h1] at hcall ⊢; exact read1 _ _ hcl hcm w hcall
      by_cases h2 : b.getD 2 0 = 2
      · rw [h2] at hcall ⊢; exact read2 _ _ hcl hcm w hcall
      by_cases h3 : b.getD 2 0 = 3
      · rw [h3] at hcall ⊢; exact read3 _ _ hcl hcm w hcall
      by_cases h4 : b.getD 2 0 = 4
      · rw [h4] at hcall ⊢; exact read4 _ _ hcl hcm w hcall
      by_cases h5 : b.getD 2 0 = 5
      · rw [h5] at hcall ⊢; exact read5 _ _ hcl hcm w hcall
      by_cases h6 : b.getD 2 0 = 6
      · rw [h6] at hcall ⊢; exact read6 _ _ hcl hcm w hcall
      exact read0 _ _ hcl hcm w _ (Lib.hid (by omega)) (beq_eq_false_iff_ne.2 (by omega)) (beq_eq_false_iff_ne.2 (by omega)) (beq_eq_false_iff_ne.2 (by omega)) (beq_eq_false_iff_ne.2 (by omega)) (beq_eq_false_iff_ne.2 (by omega)) (beq_eq_false_iff_ne.2 (by omega)) hcall
    refine key.mono fun en w' hh => ?_
    obtain ⟨hb, om, E, he, ho, hx⟩ := hh
    exact ⟨hb, om, E, he, ho, .inr ⟨hE, hx⟩⟩
  · refine (read_bad (.slice A n c) (tkE b) (by simpa using hE) w (fun V h => (ht V h).mono fun en w' hh => ⟨by
      rcases hh.1 with ⟨_, h2⟩ | ⟨h1, _⟩
      · exact h2
      · exact absurd h1 hE, hh.2⟩)).mono ?_
    rintro en w' ⟨rfl, hb⟩
    exact ⟨hb, zeroO, tkE b, rfl, ownL_zero _ _, .inl ⟨hE, rfl, rfl⟩⟩
theorem read_v {w0 w : World} {v : Value} {l : List Nat} (hl : ∀ b ∈ l, b < 256) (hm : l.length ≤ 10000) (ho : Owns w0 w v l) : Calls Try.prog 14 #[v] w (ReadP l w) := by
  obtain ⟨A, c, rfl, hc, hR⟩ := ho.slice
  exact read_any A l.length c l rfl hm hc hl w hR
end Go.Proofs.Ytjmhefkmpfkpbaa
namespace Go.Proofs.Ytjmhefkmpfkpbaa
open Go.ChangeShapes Go.WideShapes Go.ChangeAt Go.RowKit
set_option linter.unusedSimpArgs false
set_option linter.unusedVariables false
theorem dec_kd (K : Int) (l : List Int) : (dec K l).2.kd = K := by
  unfold dec
  dsimp only
  by_cases h1 : K = 1
  · rw [if_pos h1]
  rw [if_neg h1]
  by_cases h2 : K = 2
  · rw [if_pos h2]
  rw [if_neg h2]
  by_cases h3 : K = 3
  · rw [if_pos h3]
  rw [if_neg h3]
  by_cases h4 : K = 4
  · rw [if_pos h4]
  rw [if_neg h4]
  by_cases h5 : K = 5
  · rw [if_pos h5]
  rw [if_neg h5]
  by_cases h6 : K = 6
  · rw [if_pos h6]
  rw [if_neg h6]
theorem good_one {K : Int} {l : List Int} {m m' : Ml} (h : GoodM K l m) (h' : GoodM K l m') : m = m' := h.2.1.trans h'.2.1.symm
/-- What was written is read. -/
theorem read_written {m : Ml} (hok : okL m) (hlt : ltL m) {om : MO} {E : Int} (h : (tkE (framed m.kd.toNat (byP m)) ≠ 0 ∧ E = tkE (framed m.kd.toNat (byP m)) ∧ om.x = zeroL) ∨ (tkE (framed m.kd.toNat (byP m)) = 0 ∧ ((E = 0 ∧ GoodM (((framed m.kd.toNat (byP m)).getD 2 0 : Nat) : Int) ((content (framed m.kd.toNat (byP m))).map Int.ofNat) om.x) ∨ (E = 41 ∧ om.x = zeroL ∧ ∀ m', ¬ GoodM (((framed m.kd.toNat (byP m)).getD 2 0 : Nat) : Int) ((content (framed m.kd.toNat (byP m))).map Int.ofNat) m')))) : E = 0 ∧ om.x = m := by
  have hlen : (byP m).length ≤ 4096 := by rw [byP_len]; have := conP_total hok; omega
  have ht := ok_tkE (framed_ok (kind := m.kd.toNat) hlen)
  have hkd : ((m.kd.toNat : Nat) : Int) = m.kd := by have := hok.1.1; omega
  have hfl : (byP m).map Int.ofNat = flat (conP m) := by
    unfold byP
    rw [List.map_map]
    conv => rhs; rw [← List.map_id (flat (conP m))]
    apply List.map_congr_left
    intro b hb
    have := (flat_byte _ b hb).1
    simp [Int.toNat_of_nonneg this]
  have hg := dec_back hok hlt
  rcases h with ⟨h, _⟩ | ⟨_, h⟩
  · exact absurd ht h
  rw [framed_kind, framed_content, hkd, hfl] at h
  rcases h with ⟨h1, h2⟩ | ⟨_, _, h3⟩
  · exact ⟨h1, good_one h2 hg⟩
  · exact absurd hg (h3 _)
/-- What is read was written so. -/
theorem written_read {b : List Nat} (hb : ∀ x ∈ b, x < 256) (ht : tkE b = 0) {m : Ml} (h : GoodM ((b.getD 2 0 : Nat) : Int) ((content b).map Int.ofNat) m) : framed m.kd.toNat (byP m) = b := by
  have hkd : m.kd.toNat = b.getD 2 0 := by have := h.2.1; rw [this, dec_kd]; omega
  have hby : byP m = content b := by
    unfold byP
    rw [h.2.2.2, List.map_map]
    conv => rhs; rw [← List.map_id (content b)]
    rfl
  rw [hkd, hby]
  exact framed_back (tkE_ok ht) hb
theorem good_lt {K : Int} {l : List Int} {m : Ml} (hb : ∀ b ∈ l, 0 ≤ b ∧ b < 256) (h : GoodM K l m) : ltL m := by
  rw [h.2.1]
  unfold dec
  dsimp only
  have z : ltM zM := ⟨(fun x h => by cases h), (fun x h => by cases h), (fun x h => by cases h), (fun x h => by cases h)⟩
  have nn : ∀ x ∈ ([] : List Nat), x < 4294967296 := fun x h => by cases h
  have d := fun st => (rD_lt hb st).2
  split
  · exact ⟨⟨d _, d _, nn, nn⟩, nn⟩
  split
  · exact ⟨⟨nn, nn, d _, d _⟩, nn⟩
  split
  · exact ⟨⟨nn, nn, d _, d _⟩, nn⟩
  split
  · exact ⟨z, nn⟩
  split
  · exact ⟨z, nn⟩
  split
  · exact ⟨z, lpN_lt hb _ _ _ nn⟩
  · exact ⟨z, nn⟩
theorem ok_sm {m : Ml} (h : okL m) : smL m := by
  obtain ⟨m0, m1, m2, m3⟩ := mayM_parts h.2.1
  have l0 := mayd_len m0
  have l1 := mayd_len m1
  have l2 := mayd_len m2
  have l3 := mayd_len m3
  have d1 := (chkD_ok h.2.2.1).1
  have d2 := h.2.2.2.2.1.2
  exact ⟨⟨by omega, by omega, by omega, by omega⟩, by omega, by omega⟩
theorem zero_sm : smL zeroL := ⟨⟨by decide, by decide, by decide, by decide⟩, by decide, by decide⟩
theorem zero_lt : ltL zeroL := ⟨⟨by decide, by decide, by decide, by decide⟩, by decide⟩
theorem zero_no : ¬ okL zeroL := fun h => by have := h.1.1; exact absurd this (by decide)
end Go.Proofs.Ytjmhefkmpfkpbaa
namespace Go.Proofs.Ytjmhefkmpfkpbaa
open Go.ChangeShapes Go.WideShapes Go.ChangeAt Go.RowKit
theorem u8_nat {a : Int} (h : (Lit.int .u8 a).wf = true) : ∃ x : Nat, x < 256 ∧ a = x := by
  have hb : 0 ≤ a ∧ a ≤ 255 := by simpa [Lit.wf, IntKind.min, IntKind.max, IntKind.signed, IntKind.bits] using h
  exact ⟨a.toNat, by omega, by omega⟩
theorem u32_nat {a : Int} (h : (Lit.int .u32 a).wf = true) : ∃ x : Nat, x < 4294967296 ∧ a = x := by
  have hb : 0 ≤ a ∧ a ≤ 4294967295 := by simpa [Lit.wf, IntKind.min, IntKind.max, IntKind.signed, IntKind.bits] using h
  exact ⟨a.toNat, by omega, by omega⟩
section
variable {H : Type} {enc : TypeId × Value → H} {P : Program} {w : World}
theorem open_bytes {r : Reach} {b0 : Nat} {t e : TypeId} {v : Value} {d : DataW H} {p : List MemPlace} (ht : P.underlying t = some (.slice e)) (he : P.underlying e = some (.int .u8)) (hc : P.cellsOf e = 1)
    (hv : Value.okWide P w r b0 t v) (h : DataW.Trod enc P w 0 (fun _ => true) true t v d p) :
    ∃ (A : Option Addr) (n c : Nat) (l : List Nat), v = .slice A n c ∧ n ≤ c ∧ c ≤ maxLen ∧ l.length = n ∧ (∀ b ∈ l, b < 256) ∧ Reads w w.heap.size 1 A n (bytes l) := by
  obtain ⟨A, n, c, zs, rfl, h1, h2, h3, h4, h5⟩ := open_reads ht he hc hv h
  refine ⟨A, n, c, zs.map Int.toNat, rfl, h1, h2, by simpa using h3, ?_, ?_⟩
  · intro b hb
    simp only [List.mem_map] at hb
    obtain ⟨z, hz, rfl⟩ := hb
    obtain ⟨x, hx, rfl⟩ := u8_nat (h5 z hz)
    simpa using hx
  · have e : bytes (zs.map Int.toNat) = zs.map (Value.int .u8) := by
      unfold bytes
      rw [List.map_map]
      apply List.map_congr_left
      intro z hz
      obtain ⟨x, hx, rfl⟩ := u8_nat (h5 z hz)
      simp
    rw [e]
    exact h4
end
end Go.Proofs.Ytjmhefkmpfkpbaa
