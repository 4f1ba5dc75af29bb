/- Limb: which limbs may be, asked of one or of some; how numbers stand; whether two are the same: the program's and the reference's. -/
import Derived.Test.YtaklmkjldmbleaaDoorA
namespace Go.Proofs.YtaklmkjldmbleaaDoor
open Go.ChangeShapes Go.WideShapes Go.ChangeAt Go.RowKit
set_option linter.unusedSimpArgs false
set_option linter.unusedVariables false
def mayE (l : List Nat) : Int := if mayB l = true then 0 else 8
theorem may_cases (l : List Nat) : (40 < l.length ∧ mayB l = false) ∨ (l.length = 0 ∧ mayB l = true) ∨ (0 < l.length ∧ l.length ≤ 40 ∧ l.getD (l.length - 1) 0 = 0 ∧ mayB l = false) ∨ (0 < l.length ∧ l.length ≤ 40 ∧ l.getD (l.length - 1) 0 ≠ 0 ∧ mayB l = true) := by
  unfold mayB Canon
  by_cases h1 : 40 < l.length
  · exact Or.inl ⟨h1, decide_eq_false (by omega)⟩
  · rcases Nat.eq_zero_or_pos l.length with h2 | h2
    · exact Or.inr (Or.inl ⟨h2, decide_eq_true ⟨by omega, Or.inl h2⟩⟩)
    · by_cases h3 : l.getD (l.length - 1) 0 = 0
      · exact Or.inr (Or.inr (Or.inl ⟨h2, by omega, h3, decide_eq_false (by omega)⟩))
      · exact Or.inr (Or.inr (Or.inr ⟨h2, by omega, h3, decide_eq_true ⟨by omega, Or.inr h3⟩⟩))
set_option maxHeartbeats 2000000 in
theorem check_any (A : Option Addr) (n c B : Nat) (l : List Nat) (hn : l.length = n) (w : World) (hR : Reads w B 1 A n (ints .u32 l)) :
    Calls Tryd.prog 27 #[.slice A n c] w fun en w' => en = .returned (.int .i64 (mayE l)) ∧ w = w' := by
  subst hn
  rcases may_cases l with ⟨h, hm⟩ | ⟨h, hm⟩ | ⟨h, h2, hz, hm⟩ | ⟨h, h2, hz, hm⟩
  · rw [show mayE l = 8 by unfold mayE; rw [hm]; rfl]
    have d1 : decide ((40 : Int) < (l.length : Int)) = true := by (simp <;> omega)
    have d1' : decide ((l.length : Int) ≤ 40) = false := by (simp <;> omega)
    obtain ⟨n, hn⟩ : ∃ n, l.length = n := ⟨_, rfl⟩
    rw [hn] at d1 d1' ⊢
    clear hR hm h hn
    go_enter Tryd.func27, Tryd.ntmps27
    go_wp2
    go_ret
    exact ⟨rfl, rfl⟩
  · rw [show mayE l = 0 by unfold mayE; rw [hm]; rfl, h]
    clear hR hm h
    go_enter Tryd.func27, Tryd.ntmps27
    go_wp2
    go_ret
    exact ⟨rfl, rfl⟩
  · rw [show mayE l = 8 by unfold mayE; rw [hm]; rfl]
    obtain ⟨j, hj⟩ : ∃ j, l.length = j + 1 := ⟨l.length - 1, by omega⟩
    obtain ⟨ad, rfl, hab, cA⟩ := at_ints rfl hR (show j < l.length by omega)
    rw [show l.length - 1 = j by omega] at hz
    obtain ⟨x, hx⟩ : ∃ x, l.getD j 0 = x := ⟨_, rfl⟩
    rw [hx] at cA hz
    have hj40 : j < 40 := by omega
    rw [hj]
    have d1 : decide ((40 : Int) < ((j + 1 : Nat) : Int)) = false := by (simp <;> omega)
    have d1' : decide (((j + 1 : Nat) : Int) ≤ 40) = true := by (simp <;> omega)
    have d2 : decide ((0 : Int) < ((j + 1 : Nat) : Int)) = true := by (simp <;> omega)
    have d3 : (((j + 1 : Nat) : Int) == 0) = false := by (simp <;> omega)
    have d3' : (((j : Nat) : Int) + 1 == 0) = false := by (simp <;> omega)
    have d2' : decide ((0 : Int) < (j : Int) + 1) = true := by (simp <;> omega)
    have e1 : decide ((40 : Int) < (j : Int) + 1) = false := by (simp <;> omega)
    have e1' : decide ((j : Int) + 1 ≤ 40) = true := by (simp <;> omega)
    have w0 : IntKind.i64.wrap ((j : Int) + 1 - 1) = (j : Int) := (IntWalk.i64_in _ (by omega)).trans (by omega)
    have j2 : (j : Int) + 1 - 1 = j := by omega
    have i1 : (0 : Int) ≤ j := by omega
    have i2 : (j : Int) < (j : Int) + 1 := by omega
    have d4 : ((x : Int) == 0) = true := by simp [hz]
    have d5 : ((x : Int) != 0) = false := by simp [hz]
    have d6 : (x == 0) = true := by simp [hz]
    have d7 : (x != 0) = false := by simp [hz]
    clear hR hj hx hz h hm h2
    go_enter Tryd.func27, Tryd.ntmps27
    go_wp2
    go_ret
    exact ⟨rfl, rfl⟩
  · rw [show mayE l = 0 by unfold mayE; rw [hm]; rfl]
    obtain ⟨j, hj⟩ : ∃ j, l.length = j + 1 := ⟨l.length - 1, by omega⟩
    obtain ⟨ad, rfl, hab, cA⟩ := at_ints rfl hR (show j < l.length by omega)
    rw [show l.length - 1 = j by omega] at hz
    obtain ⟨x, hx⟩ : ∃ x, l.getD j 0 = x := ⟨_, rfl⟩
    rw [hx] at cA hz
    have hj40 : j < 40 := by omega
    rw [hj]
    have d1 : decide ((40 : Int) < ((j + 1 : Nat) : Int)) = false := by (simp <;> omega)
    have d1' : decide (((j + 1 : Nat) : Int) ≤ 40) = true := by (simp <;> omega)
    have d2 : decide ((0 : Int) < ((j + 1 : Nat) : Int)) = true := by (simp <;> omega)
    have d3 : (((j + 1 : Nat) : Int) == 0) = false := by (simp <;> omega)
    have d3' : (((j : Nat) : Int) + 1 == 0) = false := by (simp <;> omega)
    have d2' : decide ((0 : Int) < (j : Int) + 1) = true := by (simp <;> omega)
    have e1 : decide ((40 : Int) < (j : Int) + 1) = false := by (simp <;> omega)
    have e1' : decide ((j : Int) + 1 ≤ 40) = true := by (simp <;> omega)
    have w0 : IntKind.i64.wrap ((j : Int) + 1 - 1) = (j : Int) := (IntWalk.i64_in _ (by omega)).trans (by omega)
    have j2 : (j : Int) + 1 - 1 = j := by omega
    have i1 : (0 : Int) ≤ j := by omega
    have i2 : (j : Int) < (j : Int) + 1 := by omega
    have d4 : ((x : Int) == 0) = false := by first | (simp; omega) | (simp [hz]; done)
    have d5 : ((x : Int) != 0) = true := by first | (simp; omega) | (simp [hz]; done)
    have d6 : (x == 0) = false := by first | (simp; omega) | (simp [hz]; done)
    have d7 : (x != 0) = true := by first | (simp; omega) | (simp [hz]; done)
    clear hR hj hx hz h hm h2
    go_enter Tryd.func27, Tryd.ntmps27
    go_wp2
    go_ret
    exact ⟨rfl, rfl⟩
set_option maxHeartbeats 2000000 in
theorem rmay_any (A : Option Addr) (n c B : Nat) (l : List Nat) (hn : l.length = n) (w : World) (hR : Reads w B 1 A n (ints .u32 l)) :
    Calls Tryd.prog 32 #[.slice A n c] w fun en w' => en = .returned (.bool (mayB l)) ∧ w = w' := by
  subst hn
  rcases may_cases l with ⟨h, hm⟩ | ⟨h, hm⟩ | ⟨h, h2, hz, hm⟩ | ⟨h, h2, hz, hm⟩
  · rw [show mayB l = false by exact hm]
    have d1 : decide ((40 : Int) < (l.length : Int)) = true := by (simp <;> omega)
    have d1' : decide ((l.length : Int) ≤ 40) = false := by (simp <;> omega)
    obtain ⟨n, hn⟩ : ∃ n, l.length = n := ⟨_, rfl⟩
    rw [hn] at d1 d1' ⊢
    clear hR hm h hn
    go_enter Tryd.func32, Tryd.ntmps32
    go_wp2
    go_ret
    exact ⟨rfl, rfl⟩
  · rw [show mayB l = true by exact hm, h]
    clear hR hm h
    go_enter Tryd.func32, Tryd.ntmps32
    go_wp2
    go_ret
    exact ⟨rfl, rfl⟩
  · rw [show mayB l = false by exact hm]
    obtain ⟨j, hj⟩ : ∃ j, l.length = j + 1 := ⟨l.length - 1, by omega⟩
    obtain ⟨ad, rfl, hab, cA⟩ := at_ints rfl hR (show j < l.length by omega)
    rw [show l.length - 1 = j by omega] at hz
    obtain ⟨x, hx⟩ : ∃ x, l.getD j 0 = x := ⟨_, rfl⟩
    rw [hx] at cA hz
    have hj40 : j < 40 := by omega
    rw [hj]
    have d1 : decide ((40 : Int) < ((j + 1 : Nat) : Int)) = false := by (simp <;> omega)
    have d1' : decide (((j + 1 : Nat) : Int) ≤ 40) = true := by (simp <;> omega)
    have d2 : decide ((0 : Int) < ((j + 1 : Nat) : Int)) = true := by (simp <;> omega)
    have d3 : (((j + 1 : Nat) : Int) == 0) = false := by (simp <;> omega)
    have d3' : (((j : Nat) : Int) + 1 == 0) = false := by (simp <;> omega)
    have d2' : decide ((0 : Int) < (j : Int) + 1) = true := by (simp <;> omega)
    have e1 : decide ((40 : Int) < (j : Int) + 1) = false := by (simp <;> omega)
    have e1' : decide ((j : Int) + 1 ≤ 40) = true := by (simp <;> omega)
    have w0 : IntKind.i64.wrap ((j : Int) + 1 - 1) = (j : Int) := (IntWalk.i64_in _ (by omega)).trans (by omega)
    have j2 : (j : Int) + 1 - 1 = j := by omega
    have i1 : (0 : Int) ≤ j := by omega
    have i2 : (j : Int) < (j : Int) + 1 := by omega
    have d4 : ((x : Int) == 0) = true := by simp [hz]
    have d5 : ((x : Int) != 0) = false := by simp [hz]
    have d6 : (x == 0) = true := by simp [hz]
    have d7 : (x != 0) = false := by simp [hz]
    clear hR hj hx hz h hm h2
    go_enter Tryd.func32, Tryd.ntmps32
    go_wp2
    go_ret
    exact ⟨rfl, rfl⟩
  · rw [show mayB l = true by exact hm]
    obtain ⟨j, hj⟩ : ∃ j, l.length = j + 1 := ⟨l.length - 1, by omega⟩
    obtain ⟨ad, rfl, hab, cA⟩ := at_ints rfl hR (show j < l.length by omega)
    rw [show l.length - 1 = j by omega] at hz
    obtain ⟨x, hx⟩ : ∃ x, l.getD j 0 = x := ⟨_, rfl⟩
    rw [hx] at cA hz
    have hj40 : j < 40 := by omega
    rw [hj]
    have d1 : decide ((40 : Int) < ((j + 1 : Nat) : Int)) = false := by (simp <;> omega)
    have d1' : decide (((j + 1 : Nat) : Int) ≤ 40) = true := by (simp <;> omega)
    have d2 : decide ((0 : Int) < ((j + 1 : Nat) : Int)) = true := by (simp <;> omega)
    have d3 : (((j + 1 : Nat) : Int) == 0) = false := by (simp <;> omega)
    have d3' : (((j : Nat) : Int) + 1 == 0) = false := by (simp <;> omega)
    have d2' : decide ((0 : Int) < (j : Int) + 1) = true := by (simp <;> omega)
    have e1 : decide ((40 : Int) < (j : Int) + 1) = false := by (simp <;> omega)
    have e1' : decide ((j : Int) + 1 ≤ 40) = true := by (simp <;> omega)
    have w0 : IntKind.i64.wrap ((j : Int) + 1 - 1) = (j : Int) := (IntWalk.i64_in _ (by omega)).trans (by omega)
    have j2 : (j : Int) + 1 - 1 = j := by omega
    have i1 : (0 : Int) ≤ j := by omega
    have i2 : (j : Int) < (j : Int) + 1 := by omega
    have d4 : ((x : Int) == 0) = false := by first | (simp; omega) | (simp [hz]; done)
    have d5 : ((x : Int) != 0) = true := by first | (simp; omega) | (simp [hz]; done)
    have d6 : (x == 0) = false := by first | (simp; omega) | (simp [hz]; done)
    have d7 : (x != 0) = true := by first | (simp; omega) | (simp [hz]; done)
    clear hR hj hx hz h hm h2
    go_enter Tryd.func32, Tryd.ntmps32
    go_wp2
    go_ret
    exact ⟨rfl, rfl⟩
theorem asked1 (A : Option Addr) (n c B : Nat) (l : List Nat) (hn : l.length = n) (w : World) (hR : Reads w B 1 A n (ints .u32 l)) :
    Calls Tryd.prog 49 #[.slice A n c] w fun en w' => en = .returned (.bool (!(mayB l))) ∧ w = w' := by
  have h := check_any A n c B l hn w hR
  cases hm : mayB l
  · rw [show mayE l = 8 by unfold mayE; rw [hm]; rfl] at h
    go_enter Tryd.func49, Tryd.ntmps49
    go_wp2_with (go_at_call 27; refine h.mono ?_; rintro e w' ⟨rfl, rfl⟩)
    go_ret
    exact ⟨rfl, rfl⟩
  · rw [show mayE l = 0 by unfold mayE; rw [hm]; rfl] at h
    go_enter Tryd.func49, Tryd.ntmps49
    go_wp2_with (go_at_call 27; refine h.mono ?_; rintro e w' ⟨rfl, rfl⟩)
    go_ret
    exact ⟨rfl, rfl⟩
/-- The first of some that may not be. -/
def firstI : List Bool → Int
  | [] => -1
  | true :: _ => 0
  | false :: r => if firstI r = -1 then -1 else firstI r + 1
def anyB (ps : List Bool) : Bool := ps.any id
theorem firstI_ge : ∀ ps, -1 ≤ firstI ps
  | [] => by decide
  | true :: _ => by unfold firstI; omega
  | false :: r => by have := firstI_ge r; unfold firstI; split <;> omega
theorem firstI_none : ∀ {ps : List Bool}, (∀ j, j < ps.length → ps.getD j false = false) → firstI ps = -1 ∧ anyB ps = false
  | [], _ => ⟨rfl, rfl⟩
  | true :: r, h => by have := h 0 (by simp); simp at this
  | false :: r, h => by
    have := firstI_none (ps := r) (fun j hj => by have := h (j + 1) (by simp; omega); simpa using this)
    exact ⟨by unfold firstI; rw [if_pos this.1], by have h2 := this.2; unfold anyB at *; simpa using h2⟩
theorem firstI_at : ∀ {ps : List Bool} {k : Nat}, k < ps.length → ps.getD k false = true → (∀ j, j < k → ps.getD j false = false) → firstI ps = (k : Int) ∧ anyB ps = true
  | [], _, h, _, _ => by simp at h
  | true :: r, 0, _, _, _ => ⟨rfl, rfl⟩
  | true :: r, k + 1, _, _, h => by have := h 0 (by omega); simp at this
  | false :: r, 0, _, h, _ => by simp at h
  | false :: r, k + 1, hk, ht, h => by
    have := firstI_at (ps := r) (k := k) (by simpa using hk) (by simpa using ht) (fun j hj => by have := h (j + 1) (by omega); simpa using this)
    refine ⟨?_, by have h2 := this.2; unfold anyB at *; simpa using h2⟩
    unfold firstI
    rw [this.1, if_neg (by omega)]
    omega
set_option maxHeartbeats 2000000 in
theorem index_any (S : Option Addr) (m c B : Nat) (vs : List Value) (ps : List Bool) (hp : ps.length = m) (hm : m ≤ 1000) (w : World) (hR : Reads w B 1 S m vs)
    (hf : ∀ (k : Nat) (v : Value) (b : Bool), vs[k]? = some v → ps[k]? = some b → Calls Tryd.prog 49 #[v] w fun en w' => en = .returned (.bool b) ∧ w = w') (F : Int) (hF : Hid (firstI ps = F)) :
    Calls Tryd.prog 53 #[.slice S m c, .func (.func 49) #[] #[]] w fun en w' => en = .returned (.int .i64 F) ∧ w = w' := by
  have gp := Lib.hid hp
  clear hp
  go_enter Tryd.func53, Tryd.ntmps53
  go_wp2
  go_loop [8] (fun t => ∃ k : Nat, k ≤ m ∧ t = .int .i64 k ∧ Hid (∀ j, j < k → ps.getD j false = false)) (fun t => m - (intOf t).toNat)
  case atStart => exact ⟨0, Nat.zero_le _, rfl, Lib.hid (fun j h => by omega)⟩
  case round =>
    obtain ⟨k, hk, rfl, h0⟩ := hrel
    by_cases hlt : k < m
    · obtain ⟨ad, u, rfl, hb, hu, cA⟩ := hR.at_ hlt
      obtain ⟨b, hpb⟩ : ∃ b, ps[k]? = some b := ⟨_, List.getElem?_eq_getElem (show k < ps.length by rw [gp.out]; exact hlt)⟩
      have hc := hf k u b hu hpb
      have hgd : ps.getD k false = b := by rw [List.getD_eq_getElem?_getD, hpb]; rfl
      have i1 : (0 : Int) ≤ k := by omega
      have i2 : (k : Int) < m := by omega
      clear hf hR hu hpb
      cases b
      · have h0' : Hid (∀ j, j < k + 1 → ps.getD j false = false) := Lib.hid (fun j hj => by
          rcases Nat.lt_or_ge j k with h | h
          · exact h0.out j h
          · rw [show j = k by omega]; exact hgd)
        clear hgd h0 gp hF
        go_wp2_with (go_at_call 49; refine hc.mono ?_; rintro e w' ⟨rfl, rfl⟩)
        go_round
        case rel => exact ⟨k + 1, by omega, by go_num, h0'⟩
        case measure => simp [intOf] <;> omega
      · have hr := (firstI_at (by rw [gp.out]; exact hlt) hgd h0.out).1
        obtain rfl : F = (k : Int) := by rw [← hF.out, hr]
        clear hgd h0 gp hF hr
        go_wp2_with (go_at_call 49; refine hc.mono ?_; rintro e w' ⟨rfl, rfl⟩)
        go_ret
        exact ⟨rfl, rfl⟩
    · obtain rfl : k = m := by omega
      have hr := (firstI_none (fun j hj => h0.out j (by rw [← gp.out]; exact hj))).1
      obtain rfl : F = -1 := by rw [← hF.out, hr]
      clear hf hR h0 gp hF hr
      go_wp2
      go_ret
      exact ⟨rfl, rfl⟩
theorem contains_any (S : Option Addr) (m c B : Nat) (vs : List Value) (ps : List Bool) (hp : ps.length = m) (hm : m ≤ 1000) (w : World) (hR : Reads w B 1 S m vs)
    (hf : ∀ (k : Nat) (v : Value) (b : Bool), vs[k]? = some v → ps[k]? = some b → Calls Tryd.prog 49 #[v] w fun en w' => en = .returned (.bool b) ∧ w = w') :
    Calls Tryd.prog 48 #[.slice S m c, .func (.func 49) #[] #[]] w fun en w' => en = .returned (.bool (anyB ps)) ∧ w = w' := by
  obtain ⟨F, hF⟩ : ∃ F, firstI ps = F := ⟨_, rfl⟩
  have hi := index_any S m c B vs ps hp hm w hR hf F (Lib.hid hF)
  have hd : decide ((0 : Int) ≤ F) = anyB ps := by
    by_cases h : ∀ j, j < ps.length → ps.getD j false = false
    · have := firstI_none h
      rw [this.2, ← hF, this.1]; rfl
    · obtain ⟨k, hk, h1, h2⟩ : ∃ k, k < ps.length ∧ ps.getD k false = true ∧ ∀ j, j < k → ps.getD j false = false := by
        clear hi hF hf hR hp hm
        induction ps with
        | nil => exact absurd (fun j hj => by simp at hj) h
        | cons b r ih =>
          cases b
          · by_cases h3 : ∀ j, j < r.length → r.getD j false = false
            · refine absurd (fun j hj => ?_) h
              rcases j with _ | j
              · rfl
              · have := h3 j (by simpa using hj); simpa using this
            · obtain ⟨k, a, b, c⟩ := ih h3
              refine ⟨k + 1, by simp; exact a, by simpa using b, fun j hj => ?_⟩
              rcases j with _ | j
              · rfl
              · have := c j (by omega); simpa using this
          · exact ⟨0, by simp, rfl, fun j hj => by omega⟩
      have := firstI_at hk h1 h2
      rw [this.2, ← hF, this.1]
      exact decide_eq_true (by omega)
  obtain ⟨R, hR2⟩ : ∃ R, anyB ps = R := ⟨_, rfl⟩
  rw [hR2] at hd ⊢
  clear hF hf hR hp hR2
  go_enter Tryd.func48, Tryd.ntmps48
  go_wp2_with (go_at_call 53; refine hi.mono ?_; rintro e w' ⟨rfl, rfl⟩)
  go_ret
  exact ⟨rfl, rfl⟩
def askE (ps : List Bool) : Int := if anyB ps = true then 8 else 0
theorem asked_any (S : Option Addr) (m c B : Nat) (vs : List Value) (ps : List Bool) (hp : ps.length = m) (hm : m ≤ 1000) (w : World) (hR : Reads w B 1 S m vs)
    (hf : ∀ (k : Nat) (v : Value) (b : Bool), vs[k]? = some v → ps[k]? = some b → Calls Tryd.prog 49 #[v] w fun en w' => en = .returned (.bool b) ∧ w = w') :
    Calls Tryd.prog 29 #[.slice S m c] w fun en w' => en = .returned (.int .i64 (askE ps)) ∧ w = w' := by
  have hc := contains_any S m c B vs ps hp hm w hR hf
  clear hR hf
  cases ha : anyB ps
  · rw [show askE ps = 0 by unfold askE; rw [ha]; rfl]
    rw [ha] at hc
    go_enter Tryd.func29, Tryd.ntmps29
    go_wp2_with (go_at_call 48; refine hc.mono ?_; rintro e w' ⟨rfl, rfl⟩)
    go_ret
    exact ⟨rfl, rfl⟩
  · rw [show askE ps = 8 by unfold askE; rw [ha]; rfl]
    rw [ha] at hc
    go_enter Tryd.func29, Tryd.ntmps29
    go_wp2_with (go_at_call 48; refine hc.mono ?_; rintro e w' ⟨rfl, rfl⟩)
    go_ret
    exact ⟨rfl, rfl⟩
end Go.Proofs.YtaklmkjldmbleaaDoor
