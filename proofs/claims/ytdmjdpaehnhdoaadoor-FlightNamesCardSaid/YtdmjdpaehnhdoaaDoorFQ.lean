/- Flight's Door: FlightNames' numbers (plain) -/
import Derived.Test.YtdmjdpaehnhdoaaDoorFB
import Derived.Test.YtdmjdpaehnhdoaaDoorNH
namespace Go.Proofs.YtdmjdpaehnhdoaaDoor
open Go.ChangeShapes Go.WideShapes Go.ChangeAt Go.RowKit
set_option linter.unusedSimpArgs false
set_option linter.unusedVariables false
set_option maxRecDepth 100000
/-- The loads behind k launches: 16-k .. 15. -/
def lfN : Nat → List En
  | 0 => []
  | k + 1 => ⟨15 - (k : Int), 0, 1, sixM⟩ :: lfN k
theorem lfN_len : ∀ k, (lfN k).length = k
  | 0 => rfl
  | k + 1 => by rw [show lfN (k + 1) = (⟨15 - (k : Int), 0, 1, sixM⟩ : En) :: lfN k from rfl, List.length_cons, lfN_len k]
theorem lfN_at : ∀ (k j : Nat) (x : En), (lfN k)[j]? = some x → j < k ∧ x = ⟨16 - (k : Int) + (j : Int), 0, 1, sixM⟩
  | 0, j, x, h => by cases h
  | k + 1, 0, x, h => by
    injection h with h
    subst h
    exact ⟨by omega, by congr 1; push_cast; omega⟩
  | k + 1, j + 1, x, h => by
    obtain ⟨h1, h2⟩ := lfN_at k j x h
    exact ⟨by omega, by rw [h2]; congr 1; push_cast; omega⟩
theorem lfN_sm (k : Nat) : ∀ x ∈ lfN k, smM x.give := fun x h => by
  obtain ⟨j, hj⟩ := List.mem_iff_getElem?.1 h
  rw [(lfN_at k j x hj).2]
  exact six_sm
theorem lfN_lt (k : Nat) : ∀ x ∈ lfN k, ltM4 x.give := fun x h => by
  obtain ⟨j, hj⟩ := List.mem_iff_getElem?.1 h
  rw [(lfN_at k j x hj).2]
  exact ⟨fun y hy => by rw [List.mem_singleton.1 hy]; decide, fun y hy => by rw [List.mem_singleton.1 hy]; decide, lt_nil, lt_nil⟩
theorem lfN_chk {k : Nat} (hk : k ≤ 16) : ChkF (lfN k) 0 := .inr (.inl ⟨by rw [lfN_len]; exact hk, fun j x h => by
  obtain ⟨h1, rfl⟩ := lfN_at k j x h
  refine ⟨?_, (by show (16 - (k : Int) + (j : Int)) ≤ 1048575; omega), (by decide : (0 : Int) ≤ 0), (by decide : (0 : Int) ≤ 65535), (by decide : (1 : Int) ≤ 1), (by decide : (1 : Int) ≤ 16), may_six⟩
  cases j with
  | zero => show (-1 : Int) < 16 - (k : Int) + ((0 : Nat) : Int); omega
  | succ j =>
    obtain ⟨y, hy⟩ : ∃ y, (lfN k)[j]? = some y := ⟨_, List.getElem?_eq_getElem (by rw [lfN_len]; omega)⟩
    obtain ⟨_, rfl⟩ := lfN_at k j y hy
    show (match (lfN k)[j]? with | some x => x.nu | none => -1) < 16 - (k : Int) + ((j + 1 : Nat) : Int)
    rw [hy]
    show 16 - (k : Int) + (j : Int) < 16 - (k : Int) + ((j + 1 : Nat) : Int)
    omega, rfl⟩)
theorem lfN_ins {k : Nat} : insL ⟨15 - (k : Int), 0, 1, sixM⟩ (lfN k) = lfN (k + 1) := by
  cases k with
  | zero => rfl
  | succ k => exact if_pos (show (15 - ((k + 1 : Nat) : Int)) < 15 - (k : Int) by omega)
theorem lfN_up {k : Nat} (hk : k < 16) : LchF (lfN k) (15 - (k : Int)) 0 sixM (lfN (k + 1)) 0 := .inr (.inr ⟨lfN_chk (by omega), ⟨by omega, by omega⟩, .inr ⟨⟨by decide, by decide⟩, .inr ⟨may_six, .inr ⟨fun j x h => by
  obtain ⟨h1, rfl⟩ := lfN_at k j x h
  show 16 - (k : Int) + (j : Int) ≠ 15 - (k : Int)
  omega, .inr ⟨by rw [lfN_len]; exact hk, rfl, lfN_ins.symm⟩⟩⟩⟩⟩)
theorem lfN_full : LchF (lfN 16) 16 0 sixM [] 9 := .inr (.inr ⟨lfN_chk (by omega), by decide, .inr ⟨⟨by decide, by decide⟩, .inr ⟨may_six, .inr ⟨fun j x h => by
  obtain ⟨h1, rfl⟩ := lfN_at 16 j x h
  show 16 - ((16 : Nat) : Int) + (j : Int) ≠ 16
  omega, .inl ⟨by rw [lfN_len]; exact Nat.le_refl _, rfl, rfl⟩⟩⟩⟩⟩)
theorem lfN_again : LchF (lfN 16) 3 0 sixM [] 12 := .inr (.inr ⟨lfN_chk (by omega), by decide, .inr ⟨⟨by decide, by decide⟩, .inr ⟨may_six, .inl ⟨⟨3, ⟨3, 0, 1, sixM⟩, rfl, rfl⟩, rfl, rfl⟩⟩⟩⟩)
theorem lfN_arg : LchF (lfN 16) 1048576 0 sixM [] 2 := .inr (.inl ⟨lfN_chk (by omega), by decide, rfl, rfl⟩)
theorem nil_arg : LchF [] 1 65536 sixM [] 2 := .inr (.inr ⟨chk_nil, by decide, .inl ⟨by decide, rfl, rfl⟩⟩)
/-- A dyad of one limb, or none. -/
def limD (x : Nat) : Dy := ⟨false, if x = 0 then [] else [x], 0⟩
theorem limD_okd {x : Nat} (h : x < LB) : okd (limD x) := by
  unfold limD
  by_cases h0 : x = 0
  · rw [if_pos h0]; exact okd_z
  · rw [if_neg h0]; exact okd_1 h0 h
theorem limD_worth (x : Nat) : worth (limD x) = ((x * 2 ^ (1024 - (0 : Int).toNat) : Nat) : Int) := by
  unfold limD
  by_cases h0 : x = 0
  · subst h0; rw [if_pos rfl, Nat.zero_mul]; exact worth_zero
  · rw [if_neg h0]; exact worth_1 x
theorem limD_add {x y : Nat} (h : x + y < LB) : addD (limD x) (limD y) = some (limD (x + y)) := addD_is (limD_okd h) (by
  rw [limD_worth, limD_worth, limD_worth]
  generalize 2 ^ (1024 - (0 : Int).toNat) = K
  rw [Nat.add_mul]
  omega)
def mmN (k : Nat) : Ms := ⟨limD (6 * k), limD k, zdy, zdy⟩
theorem mmN_up {k : Nat} (h : k < 16) : addM (mmN k) sixM = some (mmN (k + 1)) := addM_is (d := mmN (k + 1)) (limD_add (x := 6 * k) (y := 6) (by unfold LB; omega)) (limD_add (x := k) (y := 1) (by unfold LB; omega)) addD_zz addD_zz
theorem lfN_filter : ∀ k, (((lfN k).filter (fun x => x.ep == 0)).map (·.give)) = List.replicate k sixM
  | 0 => rfl
  | k + 1 => by
    show sixM :: (((lfN k).filter (fun x => x.ep == 0)).map (·.give)) = _
    rw [lfN_filter k]
    rfl
theorem sumF_cons {a x b : Ms} (r : List Ms) (h : addM a x = some b) : sumF a (x :: r) = sumF b r := by
  show (match addM a x with | none => none | some d => sumF d r) = _
  rw [h]
theorem mmN_sum : ∀ (j k : Nat), k + j ≤ 16 → sumF (mmN k) (List.replicate j sixM) = some (mmN (k + j))
  | 0, k, _ => by rw [List.replicate_zero, Nat.add_zero]; rfl
  | j + 1, k, h => by
    rw [List.replicate_succ, sumF_cons _ (mmN_up (by omega)), mmN_sum j (k + 1) (by omega), show k + 1 + j = k + (j + 1) by omega]
theorem zM_mmN : zM = mmN 0 := rfl
theorem lfN_sum : sumFl (lfN 16) 0 = some (mmN 16) := by
  have h := mmN_sum 16 0 (by decide)
  rw [Nat.zero_add, ← zM_mmN] at h
  unfold sumFl
  rw [lfN_filter]
  exact h
theorem chkF_one {l : List En} {E : Int} (h : ChkF l E) (h' : ChkF l 0) : E = 0 := by
  rcases h with ⟨h1, _⟩ | ⟨_, _, h⟩ | ⟨_, h1, _⟩
  · rcases h' with ⟨_, h2⟩ | ⟨h2, _, _⟩ | ⟨_, _, h2⟩
    · cases h2
    · omega
    · cases h2
  · exact h
  · rcases h' with ⟨_, h2⟩ | ⟨_, h2, _⟩ | ⟨_, _, h2⟩
    · cases h2
    · exact absurd h2 h1
    · cases h2
end Go.Proofs.YtdmjdpaehnhdoaaDoor
