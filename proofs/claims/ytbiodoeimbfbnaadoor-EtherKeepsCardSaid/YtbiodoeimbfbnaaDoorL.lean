/- Ether: the program's Spoil, whole; what spoilt copies are like. -/
import Derived.Test.YtbiodoeimbfbnaaDoorK
namespace Go.Proofs.YtbiodoeimbfbnaaDoor
open Go.ChangeShapes Go.WideShapes Go.ChangeAt Go.RowKit
set_option linter.unusedSimpArgs false
set_option linter.unusedVariables false
theorem spl_all {l : List Cp} {i a : Int} {m : Nat} (Q : Cp → Prop) (h : ∀ x ∈ l, Q x) (hQ : ∀ x p, Q x → Q ⟨x.num, x.dn, turned x.txt p m, true⟩) : ∀ x ∈ (splS l i a m).1, Q x := by
  unfold splS
  split
  · split
    · simp
    · rename_i c hc
      split
      · split
        · simp
        · intro x hx
          have hcm : c ∈ l := by
            split at hc
            · exact List.mem_of_getElem? hc
            · cases hc
          rcases List.mem_or_eq_of_mem_set hx with h1 | h1
          · exact h x h1
          · subst h1
            exact hQ c _ (h c hcm)
      · simp
  · simp
theorem turned_len (t : List Nat) (p m : Nat) : (turned t p m).length = t.length := by unfold turned; exact turnBy_len _ _ _
theorem turned_lt {t : List Nat} (p m : Nat) (h : ∀ b ∈ t, b < 256) : ∀ b ∈ turned t p m, b < 256 := turnBy_lt p _ h
theorem spl_txt {l : List Cp} {i a : Int} {m B : Nat} (h : ∀ x ∈ l, x.txt.length ≤ B) : ∀ x ∈ (splS l i a m).1, x.txt.length ≤ B :=
  spl_all (fun x => x.txt.length ≤ B) h (fun x p hx => by simp only [turned_len]; exact hx)
theorem spl_bytes {l : List Cp} {i a : Int} {m : Nat} (h : ∀ x ∈ l, ∀ b ∈ x.txt, b < 256) : ∀ x ∈ (splS l i a m).1, ∀ b ∈ x.txt, b < 256 :=
  spl_all (fun x => ∀ b ∈ x.txt, b < 256) h (fun x p hx => turned_lt p m hx)
theorem spl_len (l : List Cp) (i a : Int) (m : Nat) : (splS l i a m).1.length ≤ l.length := by
  unfold splS
  split
  · split
    · simp
    · split
      · split <;> simp
      · simp
  · simp
theorem pspoil_any (A : Option Addr) (n c : Nat) (l : List Cp) (m : Nat) (hm : n ≤ 1000) (hm32 : m < 4294967296) (hby : ∀ x ∈ l, ∀ b ∈ x.txt, b < 256) (w : World) (hT : Tab w) (h1 : Cps w w.heap.size A n l) (i a : Int) :
    Calls Tryd.prog 9 #[.slice A n c, .int .i64 i, .int .i64 a, .int .u32 (m : Int)] w (SpOwn w (splS l i a m)) := by
  have ln := cps_len h1
  by_cases hE : chkE l = 0
  rotate_left
  · rw [spl_err rfl hE]
    exact spoil_err A n c l m hm hm32 w h1 i a _ rfl hE
  by_cases hi : i < 0 ∨ (n : Int) ≤ i
  · rw [spl_out hE (by rw [ln]; exact hi)]
    exact spoil_out A n c l m hm hm32 w h1 i a hE hi
  obtain ⟨k, rfl⟩ : ∃ k : Nat, i = k := ⟨i.toNat, by omega⟩
  have hk : k < n := by omega
  obtain ⟨x, hx⟩ : ∃ x, l[k]? = some x := ⟨_, List.getElem?_eq_getElem (by omega)⟩
  rw [spl_in hE hx]
  by_cases h0 : m = 0
  · rw [if_neg (by unfold fitB; simp [h0])]
    exact spoil_zero A n c l m hm hm32 w h1 k a hk hE h0
  by_cases ha : a < 0
  · rw [if_neg (by unfold fitB; simp; omega)]
    exact spoil_neg A n c l m hm hm32 w h1 k a hk hE h0 ha
  by_cases hf : 8 * (x.txt.length : Int) - Lib.bitLen m < a
  · rw [if_neg (by unfold fitB; simp; omega)]
    exact spoil_far A n c l m hm hm32 w h1 k a hk hE h0 (by omega) (fun y hy => by rw [hx] at hy; injection hy with hy; subst hy; exact hf)
  have hfit : fitB x.txt.length a m = true := by unfold fitB; simp; omega
  rw [if_pos hfit]
  by_cases hs : x.sp = true
  · rw [if_pos hs]
    exact spoil_again A n c l m hm hm32 w h1 k a hk hE h0 (by omega) (fun y hy => by rw [hx] at hy; injection hy with hy; subst hy; exact ⟨hs, by omega⟩)
  rw [if_neg hs]
  obtain ⟨p, rfl⟩ : ∃ p : Nat, a = p := ⟨a.toNat, by omega⟩
  obtain ⟨num, dn, txt, sp⟩ := x
  have hsp : sp = false := by simpa using hs
  subst hsp
  rw [show (p : Int).toNat = p by simp]
  exact spoil_ok A n c l m hm hm32 w h1 k p hk hE hT hby h0 num dn txt hx hfit
end Go.Proofs.YtbiodoeimbfbnaaDoor
