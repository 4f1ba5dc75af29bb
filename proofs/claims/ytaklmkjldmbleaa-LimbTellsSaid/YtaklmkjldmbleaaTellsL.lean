/- The statement LimbTells: which limbs may be, a number's limbs, how two numbers stand, sums and differences, or the errors, are the document's: any two and number. No condition. -/
import Derived.Test.YtaklmkjldmbleaaW
import Derived.Test.YtaklmkjldmbleaaRange
import Derived.Test.YtaklmkjldmbleaaRows
namespace Go.Proofs.Ytaklmkjldmbleaa.LimbTells
open Go.ChangeShapes Go.WideShapes Go.ChangeAt Go.RowKit
set_option linter.unusedVariables false

theorem own : ownKnob Try.prog.godebug = none := by kernel_rfl
theorem laidOut : laidOutB Try.prog = true := by kernel_rfl


set_option maxRecDepth 100000 in
theorem lifted (os : Os) (started : os.Started) (H : Type) (enc : TypeId × Value → H) :
    ReturnsInHanded {} Try.checked os 3 .any (Rows.limbTellsSpec.pre6 enc Try.prog Try.f3 Rows.limbTellsRow.domain false) (Rows.limbTellsSpec.post enc Try.prog Try.f3 false true false false) := by
  refine returnsInHanded_of_change (C := Try.checked) own started (by kernel_rfl) Try.func3
    (ChangeSpec.witness6 (enc := enc) (C := Try.checked) false ⟨#[], #[.slice none 0 0, .slice none 0 0, .int .u64 0], []⟩ 8 (by kernel_rfl) (by kernel_rfl) (by kernel_rfl) (by kernel_rfl)) ?_
  intro W base args ds gs before hval0 hW hcnd _
  have hval : ∀ (j : Nat) t v, Try.f3.params[j]? = some t → args[j]? = some v → Value.okWide Try.prog W .any base t v := hval0
  have hW' := hW
  obtain ⟨p, q, hA0, hV, rfl, hfz, hnd⟩ := hW
  have hA : DataW.TrodAll enc Try.prog W 0 (fun _ => true) true Try.f3.params.toList args.toList ds p := hA0
  rw [Try.params3] at hA hval
  obtain ⟨v0, vs0, d0, ds0, p0, q0, hargs, rfl, rfl, h0, r0⟩ := trodAll_cons hA
  obtain ⟨v1, vs1, d1, ds1, p1, q1, rfl, rfl, rfl, h1, r1⟩ := trodAll_cons r0
  obtain ⟨v2, vs2, d2, ds2, p2, q2, rfl, rfl, rfl, h2, r2⟩ := trodAll_cons r1
  obtain ⟨rfl, rfl, rfl⟩ := trodAll_nil r2
  obtain rfl : args = #[v0, v1, v2] := by cases args; simp_all
  obtain ⟨rfl, rfl⟩ := trodVars_none hV
  obtain ⟨A, n, c, z0, rfl, hnc, _, hz0, hr0, hw0⟩ := open_reads Try.underlying22 Try.underlying49 (by kernel_rfl) (hval 0 22 v0 rfl rfl) h0
  rw [ints_of (fun z hz => (u32_range (hw0 z hz)).1)] at hr0
  obtain ⟨A2, n2, c2, z1, rfl, hn2c, _, hz1, hr1, hw1⟩ := open_reads Try.underlying22 Try.underlying49 (by kernel_rfl) (hval 1 22 v1 rfl rfl) h1
  rw [ints_of (fun z hz => (u32_range (hw1 z hz)).1)] at hr1
  obtain ⟨x, rfl, rfl, rfl, wx⟩ := open_int Try.underlying23 (hval 2 23 v2 rfl rfl) h2
  obtain ⟨x, rfl⟩ : ∃ k : Nat, x = (k : Int) := ⟨x.toNat, (Int.toNat_of_nonneg (u64_range wx).1).symm⟩

  clear hA0 hval0
  refine (Go.Proofs.Ytaklmkjldmbleaa.LimbTells.walk A A2 n n2 c c2 (z0.map Int.toNat) (z1.map Int.toNat) (by simpa using hz0) (by simpa using hz1) hnc hn2c (fun y hy => by obtain ⟨z, hz, rfl⟩ := List.mem_map.1 hy; have := u32_range (hw0 z hz); omega) (fun y hy => by obtain ⟨z, hz, rfl⟩ := List.mem_map.1 hy; have := u32_range (hw1 z hz); omega) x (by have := (u64_range wx).2; omega) W hr0 hr1).mono fun e W' ⟨he, hg⟩ => ?_
  subst he
  exact ⟨_, rfl, law_post (tb := 4) laidOut (by rw [Try.params3]; intro t ht; simp at ht <;> (first | (rcases ht with rfl | rfl | rfl | rfl | rfl) | (rcases ht with rfl | rfl | rfl | rfl) | (rcases ht with rfl | rfl | rfl) | (rcases ht with rfl | rfl) | subst ht | exact ht.elim) <;> exact ⟨by kernel_rfl, of_decide_eq_true (by kernel_rfl)⟩) rfl Try.underlying4 rfl hW' rfl rfl rfl hg⟩

theorem proved : Rows.LimbTellsSaid :=
  OpenClaim.holds_of_wide 3 Try.f3 rfl rfl rfl rfl rfl rfl rfl ⟨rfl, rfl, rfl, rfl, rfl⟩ rfl rfl rfl rfl rfl (by kernel_rfl) Try.func3 (by kernel_rfl)
    (of_decide_eq_true (by kernel_rfl)) (by unfold Func.isWrapper; first | (rw [if_pos (by decide +kernel)]; kernel_rfl) | (rw [if_neg (by decide +kernel)]; exact ⟨rfl, rfl⟩))
    (fun os started H enc _ => lifted os started H enc)
end Go.Proofs.Ytaklmkjldmbleaa.LimbTells
