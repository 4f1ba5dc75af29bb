/- Ether: what is answered stays small; what is kept when other memory is written over -/
import Derived.Test.YtbiodoeimbfbnaaR5
import Derived.Deep.QuietTactic
import Derived.BigQuiet
namespace Go.Proofs.Ytbiodoeimbfbnaa
open Go.ChangeShapes Go.WideShapes Go.ChangeAt Go.RowKit
set_option linter.unusedSimpArgs false
set_option linter.unusedVariables false
section
variable {l : List Cp} {c : Cp} {i : Int} {Q : Cp → Prop}
theorem snd_all (h : ∀ y ∈ l, Q y) (hc : Q c) : ∀ y ∈ (sndS l c).1, Q y := by
  intro y hy
  unfold sndS at hy
  split at hy
  · split at hy
    · split at hy
      · cases hy
      · exact (List.mem_append.1 hy).elim (h y) (fun h1 => by rw [List.mem_singleton.1 h1]; exact hc)
    · cases hy
  · cases hy
theorem snd_len (l : List Cp) (c : Cp) : (sndS l c).1.length ≤ l.length + 1 := by
  unfold sndS
  split
  · split
    · split
      · simp
      · simp
    · simp
  · simp
theorem dbl_all (h : ∀ y ∈ l, Q y) : ∀ y ∈ (dblS l i).1, Q y := by
  intro y hy
  unfold dblS at hy
  split at hy
  · split at hy
    · cases hy
    · rename_i x hx
      refine snd_all h ?_ y hy
      split at hx
      · exact h x (List.mem_of_getElem? hx)
      · cases hx
  · cases hy
theorem dbl_len (l : List Cp) (i : Int) : (dblS l i).1.length ≤ l.length + 1 := by
  unfold dblS
  split
  · split
    · simp
    · exact snd_len _ _
  · simp
theorem tk_all (h : ∀ y ∈ l, Q y) : ∀ y ∈ (tkS l i).1, Q y := by
  intro y hy
  unfold tkS at hy
  split at hy
  · split at hy
    · cases hy
    · rcases List.mem_append.1 hy with h1 | h1
      · exact h y (List.mem_of_mem_take h1)
      · exact h y (List.mem_of_mem_drop h1)
  · cases hy
theorem tk_len (l : List Cp) (i : Int) : (tkS l i).1.length ≤ l.length := by
  unfold tkS
  split
  · split
    · simp
    · simp; omega
  · simp
theorem tk_one (h : ∀ y ∈ l, Q y) (h0 : Q ⟨0, 0, [], false⟩) : Q (tkS l i).2.1 := by
  unfold tkS
  split
  · split
    · exact h0
    · rename_i x hx
      split at hx
      · exact h x (List.mem_of_getElem? hx)
      · cases hx
  · exact h0
end
theorem OwnR.fr2 {w w' : World} {base n : Nat} {e : TypeId} {X : Option Addr} {xs : List Value} {S : Nat → Prop} (h : OwnR w base e X n xs) (hf : Fr S w w') (hS : ∀ g, base ≤ g → ¬ S g) : OwnR w' base e X n xs :=
  ⟨h.1, fun h0 => by obtain ⟨g, cur, hA, hg, hh, ht⟩ := h.2 h0; exact ⟨g, cur, hA, hg, hf.blk (hS g hg) hh, ht⟩⟩
theorem reads_fr {w w' : World} {B m : Nat} {E : TypeId} {X : Option Addr} {xs : List Value} {S1 S2 : Nat → Prop} (h : Reads w B 1 X m xs) (hw : WrR w S1 E X m) (hf : Fr S2 w w') (hd : ∀ g, S1 g → ¬ S2 g) : Reads w' B 1 X m xs :=
  ⟨h.1, fun h0 => by
    obtain ⟨ad, e, hb, hc⟩ := h.2 h0
    obtain ⟨g, T, cur, e2, hg, hB, _, _⟩ := hw h0
    refine ⟨ad, e, hb, fun j u hu => ?_⟩
    rw [e2] at e
    injection e with e
    subst e
    have e3 : (⟨g, 0, none⟩ : Addr).add j = ⟨g, j, none⟩ := by unfold Addr.add; split <;> simp_all
    have := hc j u hu
    rw [e3] at this ⊢
    rw [(hf.blk (hd g hg) hB).cell, ← hB.cell]
    exact this⟩
theorem WrR.below {w w' : World} {S : Nat → Prop} {E : TypeId} {X : Option Addr} {m : Nat} (h : WrR w S E X m) (hb : Below w.heap.size w w') : WrR w' S E X m := h.keep fun _ _ _ _ hB => hB.below hb hB.lt
theorem WrR.fr {w w' : World} {S S2 : Nat → Prop} {E : TypeId} {X : Option Addr} {m : Nat} (h : WrR w S E X m) (hf : Fr S2 w w') (hd : ∀ g, S g → ¬ S2 g) : WrR w' S E X m := h.keep fun g _ _ hg hB => hf.blk (hd g hg) hB
/-- One copy in a block of its own, whose text may be written over. -/
theorem one_wr {w : World} {g : Nat} {num dn : Int} {txt : List Nat} {sp : Bool} {X : Option Addr} {m d : Nat} {S : Nat → Prop} (hm : txt.length = m) (hb : Blk w g 25 #[.int .i64 num, .int .i64 dn, .slice X m d, .bool sp]) (hS : S g) (hX : WrR w S 25 X m) :
    Wr w S 25 4 (some ⟨g, 0, none⟩) 1 [fds ⟨num, dn, txt, sp⟩] := by
  refine ⟨rfl, fun _ => ⟨g, _, rfl, hS, hb, fun i r hr j f hf => ?_⟩⟩
  match i, hr with
  | 0, hr =>
    injection hr with hr
    subst hr
    match j, hf with
    | 0, hf => injection hf with hf; subst hf; exact ⟨_, rfl, trivial⟩
    | 1, hf => injection hf with hf; subst hf; exact ⟨_, rfl, trivial⟩
    | 2, hf => injection hf with hf; subst hf; exact ⟨_, rfl, X, m, d, rfl, hm, hX⟩
    | 3, hf => injection hf with hf; subst hf; exact ⟨_, rfl, trivial⟩
    | j + 4, hf => simp [fds] at hf
  | i + 1, hr => simp at hr
end Go.Proofs.Ytbiodoeimbfbnaa
