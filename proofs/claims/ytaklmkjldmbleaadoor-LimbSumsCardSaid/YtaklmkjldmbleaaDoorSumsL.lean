/- The statement LimbSums (card): sums and products go either way round, differences undo sums, and a product by a sum is the sum of products: any three. No condition. -/
import Derived.Test.YtaklmkjldmbleaaDoorSumsW
import Derived.Test.YtaklmkjldmbleaaDoorRange
import Derived.Test.YtaklmkjldmbleaaDoorLaid
import Derived.Test.YtaklmkjldmbleaaDoorCards
import Derived.Test.YtaklmkjldmbleaaDoorTie
import Derived.SevenTiedAt
namespace Go.Proofs.YtaklmkjldmbleaaDoor.LimbSums
open Go.ChangeShapes Go.WideShapes Go.ChangeAt Go.RowKit
set_option linter.unusedVariables false

theorem own : ownKnob Tryd.prog.godebug = none := by kernel_rfl
theorem laidOut : laidOutB Tryd.prog = true := by kernel_rfl

set_option maxRecDepth 100000 in
theorem lifted (os : Os) (started : os.Started) (H : Type) (enc : TypeId × Value → H) :
    ReturnsInHanded {} Tryd.checked os 4 .any (fun w args => (Rows.limbSumsSpec.pre enc Tryd.prog Tryd.f4 [] false w args ∧ laidMetH Tryd.prog laid1 w) ∧ sizedMet enc Tryd.prog Tryd.f4 (OpenSpec.ofChange Rows.limbSumsSpec) false w args)
      (Rows.limbSumsSpec.post enc Tryd.prog Tryd.f4 false true false false) := by
  refine returnsInHanded_of_change_and (C := Tryd.checked) (X := fun w _ => laidMetH Tryd.prog laid1 w) (fun _ _ _ hh h => h.of_heap hh) own started (by kernel_rfl) Tryd.func4
    (ChangeSpec.witness_shaped (enc := enc) (C := Tryd.checked) (os := os) (X := fun w _ => laidMetH Tryd.prog laid1 w) false (World.doorLaid Tryd.prog 14 os) #[.slice none 0 0, .slice none 0 0, .slice none 0 0] 8 rfl (World.shaped_of_RefB (by kernel_rfl) (by kernel_rfl)) (by kernel_rfl) (by kernel_rfl) (by kernel_rfl) (door_met os _)) ?_
  intro W base args ds gs before hval0 hW _ _ hL _
  have hval : ∀ (j : Nat) t v, Tryd.f4.params[j]? = some t → args[j]? = some v → Value.okWide Tryd.prog W .any base t v := hval0
  have hW' := hW
  obtain ⟨p, q, hA0, hV, rfl, hfz, hnd⟩ := hW
  have hA : DataW.TrodAll enc Tryd.prog W 0 (fun _ => true) true Tryd.f4.params.toList args.toList ds p := hA0
  rw [Tryd.params4] at hA hval
  obtain ⟨v0, vs0, d0, ds0, p0, q0, hargs, rfl, rfl, h0, r0⟩ := trodAll_cons hA
  obtain ⟨v1, vs1, d1, ds1, p1, q1, rfl, rfl, rfl, h1, r1⟩ := trodAll_cons r0
  obtain ⟨v2, vs2, d2, ds2, p2, q2, rfl, rfl, rfl, h2, r2⟩ := trodAll_cons r1
  obtain ⟨rfl, rfl, rfl⟩ := trodAll_nil r2
  obtain rfl : args = #[v0, v1, v2] := by cases args; simp_all
  obtain ⟨rfl, rfl⟩ := trodVars_none hV
  obtain ⟨A, n, c, z0, rfl, hnc, _, hz0, hr0, hw0⟩ := open_reads Tryd.underlying22 Tryd.underlying45 (by kernel_rfl) (hval 0 22 v0 rfl rfl) h0
  rw [ints_of (fun z hz => (u32_range (hw0 z hz)).1)] at hr0
  obtain ⟨A2, n2, c2, z1, rfl, hn2c, _, hz1, hr1, hw1⟩ := open_reads Tryd.underlying22 Tryd.underlying45 (by kernel_rfl) (hval 1 22 v1 rfl rfl) h1
  rw [ints_of (fun z hz => (u32_range (hw1 z hz)).1)] at hr1
  obtain ⟨A3, n3, c3, z2, rfl, hn3c, _, hz2, hr2, hw2⟩ := open_reads Tryd.underlying22 Tryd.underlying45 (by kernel_rfl) (hval 2 22 v2 rfl rfl) h2
  rw [ints_of (fun z hz => (u32_range (hw2 z hz)).1)] at hr2
  have hT := tab_of_laid hL
  clear hA0 hval0
  refine (Go.Proofs.YtaklmkjldmbleaaDoor.LimbSums.walk A A2 A3 n n2 n3 c c2 c3 (z0.map Int.toNat) (z1.map Int.toNat) (z2.map Int.toNat) (by simpa using hz0) (by simpa using hz1) (by simpa using hz2) hnc hn2c hn3c (fun y hy => by obtain ⟨z, hz, rfl⟩ := List.mem_map.1 hy; have := u32_range (hw0 z hz); omega) (fun y hy => by obtain ⟨z, hz, rfl⟩ := List.mem_map.1 hy; have := u32_range (hw1 z hz); omega) (fun y hy => by obtain ⟨z, hz, rfl⟩ := List.mem_map.1 hy; have := u32_range (hw2 z hz); omega) W hr0 hr1 hr2 hT).mono fun e W' ⟨he, hg⟩ => ?_
  subst he
  exact ⟨_, rfl, law_post (tb := 4) laidOut (by rw [Tryd.params4]; intro t ht; simp at ht <;> (first | (rcases ht with rfl | rfl | rfl | rfl | rfl) | (rcases ht with rfl | rfl | rfl | rfl) | (rcases ht with rfl | rfl | rfl) | (rcases ht with rfl | rfl) | subst ht | exact ht.elim) <;> exact ⟨by kernel_rfl, of_decide_eq_true (by kernel_rfl)⟩) rfl Tryd.underlying4 rfl hW' rfl rfl rfl hg⟩

theorem row_holds : Rows.LimbSumsSaid :=
  OpenClaim.holds_of_wide 4 Tryd.f4 rfl rfl rfl rfl rfl rfl rfl ⟨rfl, rfl, rfl, rfl, rfl⟩ rfl rfl rfl rfl rfl (by kernel_rfl) Tryd.func4 (by kernel_rfl)
    (of_decide_eq_true (by kernel_rfl)) (by unfold Func.isWrapper; first | (rw [if_pos (by decide +kernel)]; kernel_rfl) | (rw [if_neg (by decide +kernel)]; exact ⟨rfl, rfl⟩))
    (fun os started H enc _ => lifted os started H enc)

theorem proved : Rows.LimbSumsCardSaid :=
  Claim7.holds_tied_plain_at .later [] [.data] true (true, "470c112a408166f845474994227505bea61545385bb7b765a1453948c8eb4bf5") false
    row_holds (fun _ h => by cases h) (by kernel_rfl) (fun _ h => by cases h) limbSums_row_tie rfl ⟨rfl, rfl⟩ (by kernel_rfl) rfl
    (fun f fn hf hfn => by
      obtain rfl : f = 4 := Option.some.inj ((show Tryd.prog.funcNamed "headcount/headcountlaw01.LimbSums" = some 4 by kernel_rfl).symm.trans hf) |>.symm
      obtain rfl : fn = Tryd.f4 := (Option.some.inj (Tryd.func4.symm.trans hfn)).symm
      exact ⟨by kernel_rfl, fun j t ht => by
        rw [Tryd.params4] at ht
        have hm : t ∈ [22, 22, 22] := by simpa using Array.mem_of_getElem? ht
        have hall : ([22, 22, 22].all fun u => !Tryd.prog.wantsStandIn u) = true := by kernel_rfl
        exact (show Tryd.prog.wantsStandIn t = false by simpa using List.all_eq_true.1 hall t hm)⟩)
    (by kernel_rfl)
end Go.Proofs.YtaklmkjldmbleaaDoor.LimbSums
