/- Limb: the walk of the law LimbTells. -/
import Derived.Test.YtaklmkjldmbleaaDoorV
namespace Go.Proofs.YtaklmkjldmbleaaDoor
open Go.ChangeShapes Go.WideShapes Go.ChangeAt Go.RowKit
set_option linter.unusedSimpArgs false
set_option linter.unusedVariables false
theorem OwnR.lt {w : World} {base n : Nat} {e : TypeId} {A : Option Addr} {xs : List Value} (h : OwnR w base e A n xs) : ∀ g, A = some ⟨g, 0, none⟩ → 0 < n → g < w.heap.size := by
  intro g hA h0
  obtain ⟨g', cur, hA', _, hh, _⟩ := h.2 h0
  rw [hA] at hA'
  injection hA' with hA'
  injection hA' with hA' _ _
  rw [hA']
  exact hh.lt
theorem own_drewN {w : World} {base n : Nat} {e : TypeId} {A : Option Addr} {xs : List Value} (h : OwnR w base e A n xs) (q : Nat) : OwnR (w.drewN q) base e A n xs := h
/-- What spoil leaves: all below, and rows that begin behind it. -/
def Spoilt (w : World) (base n : Nat) (A : Option Addr) (w' : World) : Prop :=
  Below base w w' ∧ ∀ base' A' n' xs', (∀ g, A = some ⟨g, 0, none⟩ → 0 < n → g < base') → OwnR w base' 45 A' n' xs' → OwnR w' base' 45 A' n' xs'
theorem OwnR.far {w : World} {base n : Nat} {e : TypeId} {A : Option Addr} {xs : List Value} (h : OwnR w base e A n xs) {p : Addr} (hp : p.block < base) (u : Value) : OwnR (w.setCell p u) base e A n xs :=
  ⟨h.1, fun h0 => by obtain ⟨g, cur, hA, hg, hh, ht⟩ := h.2 h0; exact ⟨g, cur, hA, hg, hh.far (by omega) u, ht⟩⟩
set_option maxHeartbeats 4000000 in
theorem spoil2 (A : Option Addr) (n c base : Nat) (xs : List Nat) (hm : n ≤ 100000) (w : World) (hO : OwnR w base 45 A n (ints .u32 xs)) :
    Calls Tryd.prog 18 #[.slice A n c] w fun en w' => en = .returned (.tuple #[]) ∧ Spoilt w base n A w' := by
  go_enter Tryd.func18, Tryd.ntmps18
  go_wp2
  go_loopw [2] (fun i wr => ∃ (k : Nat) (L : List Nat), k ≤ n ∧ i = .int .i64 (k : Int) ∧ OwnR wr base 45 A n (ints .u32 L) ∧ Spoilt w base n A wr) (fun i _ => n - (intOf i).toNat)
  case atStart => exact ⟨0, xs, Nat.zero_le _, rfl, hO, Below.refl _ _, fun _ _ _ _ _ h => h⟩
  case round =>
    clear hO
    obtain ⟨k, L, hk, rfl, hO, hB⟩ := hrel
    by_cases hlt : k < n
    · obtain ⟨g, rfl, hb, hl, hc, hf, hs⟩ := hO.at_ hlt
      have hLl : L.length = n := by have := hO.1; simpa using this
      rw [ints_at .u32 (by omega)] at hc
      have hs7 := hs (.int .u32 7)
      rw [show (ints .u32 L).set k (.int .u32 7) = ints .u32 (L.set k 7) by simp [ints, List.map_set]] at hs7
      have hB7 : Spoilt w base n (some ⟨g, 0, none⟩) (wr.setCell ⟨g, k, none⟩ (.int .u32 7)) := ⟨hB.1.setCell (p := ⟨g, k, none⟩) hb (.int .u32 7), fun base' A' n' xs' h1 h2 => (hB.2 base' A' n' xs' h1 h2).far (p := ⟨g, k, none⟩) (h1 g rfl (by omega)) _⟩
      have i1 : (0 : Int) ≤ k := by omega
      have i2 : (k : Int) < n := by omega
      obtain ⟨u, hu⟩ : ∃ u, L.getD k 0 = u := ⟨_, rfl⟩
      rw [hu] at hc
      clear hO hs hu hLl hB
      go_wp2
      go_roundw
      case rel => exact ⟨k + 1, L.set k 7, by omega, by go_num, hs7, hB7⟩
      case measure => simp [intOf] <;> omega
    · obtain rfl : k = n := by omega
      clear hO
      go_wp2
      go_end0
      exact ⟨rfl, hB⟩
theorem great_any (A : Option Addr) (n c : Nat) (G : Bool) (hG : decide ((42 : Int) < n) = G) (w : World) :
    Calls Tryd.prog 8 #[.slice A n c] w fun en w' => en = .returned (.bool G) ∧ w = w' := by
  have hG2 : decide (42 < n) = G := by rw [← hG]; exact decide_eq_decide.2 (by omega)
  go_enter Tryd.func8, Tryd.ntmps8
  go_wp2
  go_ret
  first | exact ⟨rfl, rfl⟩ | exact ⟨by rw [← hG2], rfl⟩
theorem over_len (N : Nat) : (overS N).1.length ≤ 40 := by unfold overS; split <;> simp <;> omega
theorem addS_len (a b : List Nat) : (addS a b).1.length ≤ 40 := by unfold addS; split; exact over_len _; simp
theorem subS_len {a b : List Nat} (ha : ∀ x ∈ a, x < 4294967296) : (subS a b).1.length ≤ 40 := by
  unfold subS
  split
  · rename_i h
    split
    · simp
    · unfold both at h
      simp only [Bool.and_eq_true] at h
      exact dig_len_le (by omega) (Nat.lt_of_le_of_lt (Nat.sub_le _ _) (Nat.lt_of_lt_of_le (val_lt ha) (Nat.pow_le_pow_right (by omega) (mayB_len h.1))))
  · simp
/-- What a copy leaves: a row of one's own. -/
def Copied (w : World) (n : Nat) (a : List Nat) (A : Option Addr) (c : Nat) (w' : World) : Prop := n ≤ c ∧ Reads w' w'.heap.size 1 A n (ints .u32 a) ∧ Below w.heap.size w w'
theorem copied {w w' : World} {v' : Value} {n : Nat} {a : List Nat} (ho : w'.ownsRow w.heap.size 45 1 v' (0 + n) ([] ++ ints .u32 a)) (hg : (w.alloc (.cells #[] 45)).grownBy w' (Value.slice (some ⟨w.heap.size, 0, none⟩) 0 0).ownBlock) : ∃ A c, v' = .slice A n c ∧ Copied w n a A c w' := by
  rw [Nat.zero_add, List.nil_append] at ho
  obtain ⟨A, c, rfl, hc, hr⟩ := own_slice ho
  refine ⟨A, c, rfl, hc, hr, Below.grown ((Below.refl w.heap.size w).alloc (Nat.le_refl _) _) hg (by rw [World.size_alloc]; omega) ?_⟩
  intro q hq
  simp [Value.ownBlock] at hq
  omega
end Go.Proofs.YtaklmkjldmbleaaDoor
