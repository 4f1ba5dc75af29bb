/- The statement LimbTimes: products, quotients and remainders, or the errors, are the document's, and the limbs that the caller keeps stay: any two numbers. No condition. -/
import Derived.Test.YtaklmkjldmbleaaG
import Derived.Test.YtaklmkjldmbleaaRange
import Derived.Test.YtaklmkjldmbleaaRows
namespace Go.Proofs.Ytaklmkjldmbleaa.LimbTimes
open Go.ChangeShapes Go.WideShapes Go.ChangeAt Go.RowKit
set_option linter.unusedVariables false

theorem own : ownKnob Try.prog.godebug = none := by kernel_rfl
theorem laidOut : laidOutB Try.prog = true := by kernel_rfl


set_option maxRecDepth 100000 in
theorem lifted (os : Os) (started : os.Started) (H : Type) (enc : TypeId × Value → H) :
    ReturnsInHanded {} Try.checked os 4 .any (Rows.limbTimesSpec.pre6 enc Try.prog Try.f4 Rows.limbTimesRow.domain false) (Rows.limbTimesSpec.post enc Try.prog Try.f4 false true false false) := by
  refine returnsInHanded_of_change (C := Try.checked) own started (by kernel_rfl) Try.func4
    (ChangeSpec.witness6 (enc := enc) (C := Try.checked) false ⟨#[], #[.slice none 0 0, .slice none 0 0], []⟩ 8 (by kernel_rfl) (by kernel_rfl) (by kernel_rfl) (by kernel_rfl)) ?_
  intro W base args ds gs before hval0 hW hcnd _
  have hval : ∀ (j : Nat) t v, Try.f4.params[j]? = some t → args[j]? = some v → Value.okWide Try.prog W .any base t v := hval0
  have hW' := hW
  obtain ⟨p, q, hA0, hV, rfl, hfz, hnd⟩ := hW
  have hA : DataW.TrodAll enc Try.prog W 0 (fun _ => true) true Try.f4.params.toList args.toList ds p := hA0
  rw [Try.params4] at hA hval
  obtain ⟨v0, vs0, d0, ds0, p0, q0, hargs, rfl, rfl, h0, r0⟩ := trodAll_cons hA
  obtain ⟨v1, vs1, d1, ds1, p1, q1, rfl, rfl, rfl, h1, r1⟩ := trodAll_cons r0
  obtain ⟨rfl, rfl, rfl⟩ := trodAll_nil r1
  obtain rfl : args = #[v0, v1] := by cases args; simp_all
  obtain ⟨rfl, rfl⟩ := trodVars_none hV
  obtain ⟨A, n, c, z0, rfl, hnc, _, hz0, hr0, hw0⟩ := open_reads Try.underlying22 Try.underlying49 (by kernel_rfl) (hval 0 22 v0 rfl rfl) h0
  rw [ints_of (fun z hz => (u32_range (hw0 z hz)).1)] at hr0
  obtain ⟨A2, n2, c2, z1, rfl, hn2c, _, hz1, hr1, hw1⟩ := open_reads Try.underlying22 Try.underlying49 (by kernel_rfl) (hval 1 22 v1 rfl rfl) h1
  rw [ints_of (fun z hz => (u32_range (hw1 z hz)).1)] at hr1

  clear hA0 hval0
  refine (Go.Proofs.Ytaklmkjldmbleaa.LimbTimes.walk A A2 n n2 c c2 (z0.map Int.toNat) (z1.map Int.toNat) (by simpa using hz0) (by simpa using hz1) hnc hn2c (fun y hy => by obtain ⟨z, hz, rfl⟩ := List.mem_map.1 hy; have := u32_range (hw0 z hz); omega) (fun y hy => by obtain ⟨z, hz, rfl⟩ := List.mem_map.1 hy; have := u32_range (hw1 z hz); omega) W hr0 hr1).mono fun e W' ⟨he, hg⟩ => ?_
  subst he
  exact ⟨_, rfl, law_post (tb := 4) laidOut (by rw [Try.params4]; intro t ht; simp at ht <;> (first | (rcases ht with rfl | rfl | rfl | rfl | rfl) | (rcases ht with rfl | rfl | rfl | rfl) | (rcases ht with rfl | rfl | rfl) | (rcases ht with rfl | rfl) | subst ht | exact ht.elim) <;> exact ⟨by kernel_rfl, of_decide_eq_true (by kernel_rfl)⟩) rfl Try.underlying4 rfl hW' rfl rfl rfl hg⟩

theorem proved : Rows.LimbTimesSaid :=
  OpenClaim.holds_of_wide 4 Try.f4 rfl rfl rfl rfl rfl rfl rfl ⟨rfl, rfl, rfl, rfl, rfl⟩ rfl rfl rfl rfl rfl (by kernel_rfl) Try.func4 (by kernel_rfl)
    (of_decide_eq_true (by kernel_rfl)) (by unfold Func.isWrapper; first | (rw [if_pos (by decide +kernel)]; kernel_rfl) | (rw [if_neg (by decide +kernel)]; exact ⟨rfl, rfl⟩))
    (fun os started H enc _ => lifted os started H enc)
end Go.Proofs.Ytaklmkjldmbleaa.LimbTimes
