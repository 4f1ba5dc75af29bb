/- A region that draws its order, inside a fence: what reads only may be taken first wherever a condition on the world holds, which each other step shows anew. (For an iterator that reads between its calls of yield.) -/
import Derived.OrdersHeld
import Derived.OrdersIn
namespace Go.Proofs.Ytdmjdpaehnhdoaa
open Go
section
variable {F : Fence} {n : Nat} {P : Program} {ops : Array Oper} {Q : Exit → Act → World → Prop} {md : Region.Mode} {S : World → Prop}
/-- It yields wherever S holds, and calls nothing. -/
def YldS (P : Program) (ops : Array Oper) (S : World → Prop) (o : Oper) (v : Value) (a : Act) : Prop := YieldsIf P ops S o v a ∧ ∀ w, o.about P w a.eval = none
/-- Whatever comes up next; behind it S holds. -/
def anyS (F : Fence) (n : Nat) (P : Program) (md : Region.Mode) (ops : Array Oper) (Q : Exit → Act → World → Prop) (S : World → Prop) : Nat → Array Bool → Act → World → Prop
  | 0, L, a, w => Region.ready md ops L = [] ∧ Q .normal a w
  | k + 1, L, a, w => (Region.ready md ops L = [] → Q .normal a w) ∧ ∀ i ∈ Region.ready md ops L, wpOpIn F n P ops Q i (fun a' w' => S w' ∧ anyS F n P md ops Q S k (L.setIfInBounds i true) a' w') a w
theorem anyS_any : ∀ (k : Nat) (L : Array Bool) (a : Act) (w : World), anyS F n P md ops Q S k L a w → wpAnyIn F n P md ops Q k L a w
  | 0, _, _, _, h => h
  | k + 1, _, _, _, h => ⟨h.1, fun i hi => wpOpIn_mono (fun a' w' h' => anyS_any k _ a' w' h'.2) (h.2 i hi)⟩
theorem YldS.same {o : Oper} {v : Value} {a a' : Act} (hy : YldS P ops S o v a) (he : execOp a'.eval o = execOp a.eval o)
    (hw : Region.wanted o (yielded ops a'.tmps) = Region.wanted o (yielded ops a.tmps)) (hb : ∀ w, o.about P w a'.eval = o.about P w a.eval) : YldS P ops S o v a' :=
  ⟨hy.1.of_same he hw, fun w => (hb w).trans (hy.2 w)⟩
theorem YldS.step {i : Nat} {o : Oper} {v : Value} {a : Act} {w : World} {K : Act → World → Prop} (hro : F.round = none) (hi : ops[i]? = some o) (hy : YldS P ops S o v a) (hS : S w) (h : K (a.put o.dst v) w) : wpOpIn F n P ops Q i K a w := by
  have hab : ∀ f, o.about P w a.eval = some f → F.fn f := fun f hf => by rw [hy.2 w] at hf; cases hf
  unfold wpOpIn
  simp only [hi]
  rcases hy.1 with ⟨hw, hv⟩ | ⟨hw, rfl⟩
  · simp only [hw, if_true, Oper.wpIn, hro, Oper.semAt_none, hv w hS, Oper.uponIn]
    exact ⟨hab, h⟩
  · simp only [hw, Bool.false_eq_true, if_false]
    exact ⟨hab, h⟩
theorem YldS.put {j : Nat} {oi oj : Oper} {v : Value} {a : Act} {w : World} {K : Act → World → Prop} (hro : F.round = none) (hj : ops[j]? = some oj) (hap : oi.apart ops oj = true)
    (hsi : ∀ cs b, oi.op ≠ .select cs b) (hsj : ∀ cs b, oj.op ≠ .select cs b) (hQ : ∀ c a w, Q (.panic c) (a.put oi.dst v) w → Q (.panic c) a w)
    (hy : YldS P ops S oi v a) (h : wpOpIn F n P ops Q j K (a.put oi.dst v) w) : wpOpIn F n P ops Q j (fun a' w' => YldS P ops S oi v a' ∧ K (a'.put oi.dst v) w') a w := by
  obtain ⟨h1, h2, h3⟩ := Oper.apart_spec hap
  have keep : ∀ b : Act, YldS P ops S oi v b → ∀ u, YldS P ops S oi v (b.put oj.dst u) := fun b hb u => hb.same (execOp_put oi hsi b oj.dst u h3) (wanted_put oi b oj.dst u h3) (fun w => about_put oi w b oj.dst u h3)
  have swap : ∀ (b : Act) (u : Value), (b.put oj.dst u).put oi.dst v = (b.put oi.dst v).put oj.dst u := fun b u => (Act.put_comm b v u h2).symm
  unfold wpOpIn at *
  simp only [hj] at *
  rw [wanted_put oj a oi.dst v h1, about_put oj w a oi.dst v h1] at h
  by_cases hw : Region.wanted oj (yielded ops a.tmps) = true
  · rw [if_pos hw] at h ⊢
    unfold Oper.wpIn at h ⊢
    rw [about_put oj w a oi.dst v h1, hro, Oper.semAt_none, execOp_put oj hsj a oi.dst v h1] at h
    rw [hro, Oper.semAt_none]
    refine ⟨h.1, ?_⟩
    have h0 := h.2
    clear h
    generalize (execOp a.eval oj).run P w = r at h0 ⊢
    cases r with
    | ok x w' =>
      cases x with
      | value u => exact ⟨keep a hy u, by rw [swap]; exact h0⟩
      | skip => exact ⟨keep a hy _, by rw [swap]; exact h0⟩
      | defer d =>
        refine ⟨keep { a with defers := d :: a.defers } (hy.same rfl rfl (fun _ => rfl)) _, ?_⟩
        rw [swap, ← Act.put_defers]
        exact h0
      | enter f args =>
        refine ⟨h0.1, h0.2.mono fun e w2 he => ?_⟩
        cases e with
        | returned u => exact ⟨keep a hy u, by rw [swap]; exact he⟩
        | panicked c => exact hQ _ _ _ he
        | outgrown => exact he
      | row row args => exact ⟨h0.1, h0.2.mono fun u w2 he => ⟨keep a hy u, by rw [swap]; exact he⟩⟩
      | round l f tmps assign body =>
        refine ⟨h0.1, h0.2.mono fun e w2 he => ?_⟩
        cases e with
        | returned u => exact ⟨keep a hy u, by rw [swap]; exact he⟩
        | panicked c => exact hQ _ _ _ he
        | outgrown => exact he
      | _ => exact h0
    | halt x w' =>
      cases x with
      | panic u => exact hQ _ _ _ h0
      | _ => exact h0
  · rw [if_neg hw] at h ⊢
    exact ⟨h.1, keep a hy _, by rw [swap]; exact h.2⟩
theorem anyS_first {i : Nat} {oi : Oper} {v : Value} (hro : F.round = none) (hi : ops[i]? = some oi) (hsel : ∀ (j : Nat) (o : Oper) cs b, ops[j]? = some o → o.op ≠ .select cs b) (hQ : ∀ c a w, Q (.panic c) (a.put oi.dst v) w → Q (.panic c) a w) :
    ∀ (k : Nat) (L : Array Bool) (a : Act) (w : World), (∀ j oj, ops[j]? = some oj → j ≠ i → L.getD j true = false → (∀ e ∈ oj.after, Region.binds md e = true → e.on ≠ i) → oi.apart ops oj = true) →
      i ∈ Region.ready md ops L → YldS P ops S oi v a → S w → anyS F n P md ops Q S k (L.setIfInBounds i true) (a.put oi.dst v) w → anyS F n P md ops Q S (k + 1) L a w := by
  intro k
  induction k with
  | zero =>
    intro L a w _ hr hy hS H
    refine ⟨fun h => absurd hr (by rw [h]; simp), fun j hj => ?_⟩
    by_cases hji : j = i
    · subst hji; exact hy.step hro hi hS ⟨hS, H⟩
    · exact absurd (ready_mono hj hji) (by rw [H.1]; simp)
  | succ k ih =>
    intro L a w hfree hr hy hS H
    refine ⟨fun h => absurd hr (by rw [h]; simp), fun j hj => ?_⟩
    by_cases hji : j = i
    · subst hji; exact hy.step hro hi hS ⟨hS, H⟩
    obtain ⟨hjun, oj, hoj, hall⟩ := mem_ready.1 hj
    have hnot : ∀ e ∈ oj.after, Region.binds md e = true → e.on ≠ i := fun e he hb heq => by
      have h1 := hall e he hb
      have h0 := (mem_ready.1 hr).1
      rw [heq] at h1
      rcases Nat.lt_or_ge i L.size with h' | h'
      · simp [h'] at h0 h1; rw [h0] at h1; cases h1
      · simp [Array.getElem?_eq_none h'] at h1
    have h2 := YldS.put hro hoj (hfree j oj hoj hji hjun hnot) (fun cs b => hsel i oi cs b hi) (fun cs b => hsel j oj cs b hoj) hQ hy (H.2 j (ready_mono hj hji))
    refine wpOpIn_mono (fun a' w' h3 => ⟨h3.2.1, ih (L.setIfInBounds j true) a' w' (fun q oq hq hqi hun hno => hfree q oq hq hqi ?_ hno) (ready_mono hr (Ne.symm hji)) h3.1 h3.2.1 ?_⟩) h2
    · by_cases hjq : j = q
      · subst hjq; exact hjun
      · rw [getD_set_ne true hjq] at hun; exact hun
    · rw [Array.setIfInBounds_comm _ _ hji]
      exact h3.2.2
theorem anyS_take {i : Nat} {oi : Oper} {v : Value} {k : Nat} {L : Array Bool} {a : Act} {w : World} (hro : F.round = none) (hi : ops[i]? = some oi) (hs : Region.noSelect ops = true) (hf : Region.free md ops L i = true) (hr : (Region.ready md ops L).contains i = true)
    (hQ : ∀ c a w, Q (.panic c) (a.put oi.dst v) w → Q (.panic c) a w) (hy : YieldsIf P ops S oi v a) (hb : ∀ w, oi.about P w a.eval = none) (hS : S w) (h : anyS F n P md ops Q S k (L.setIfInBounds i true) (a.put oi.dst v) w) : anyS F n P md ops Q S (k + 1) L a w :=
  anyS_first hro hi (Region.noSelect_spec hs) hQ k L a w (Region.free_spec hi hf) (by simpa using hr) ⟨hy, hb⟩ hS h
theorem anyS_done {L : Array Bool} {a : Act} {w : World} (hr : Region.ready md ops L = []) (h : Q .normal a w) : ∀ k, anyS F n P md ops Q S k L a w
  | 0 => ⟨hr, h⟩
  | _ + 1 => ⟨fun _ => h, by rw [hr]; simp⟩
/-- One operation alone may come up. -/
theorem anyS_one {i : Nat} {o : Oper} {k : Nat} {L : Array Bool} {a : Act} {w : World} (hr : Region.ready md ops L = [i]) (ho : ops[i]? = some o) (hw : Region.wanted o (yielded ops a.tmps) = true)
    (h : ∀ K : Act → World → Prop, (∀ a w, S w → anyS F n P md ops Q S k (L.setIfInBounds i true) a w → K a w) → Oper.wpIn F n P o a w K Q) : anyS F n P md ops Q S (k + 1) L a w := by
  refine ⟨fun h0 => (by rw [hr] at h0; cases h0), fun j hj => ?_⟩
  rw [hr] at hj
  obtain rfl := List.mem_singleton.1 hj
  refine wpOpIn_step ho (fun K hK => ?_)
  rw [if_pos hw]
  exact h K (fun a w hS hA => hK a w ⟨hS, hA⟩)
/-- The ways out, a panic left out. -/
def NoPan (Q : Exit → Act → World → Prop) : Exit → Act → World → Prop
  | .panic _, _, _ => False
  | e, a, w => Q e a w
theorem NoPan.normal {a : Act} {w : World} (h : Q .normal a w) : NoPan Q .normal a w := h
theorem NoPan.imp : ∀ (e : Exit) (a : Act) (w : World), NoPan Q e a w → Q e a w
  | .panic _, _, _, h => h.elim
  | .normal, _, _, h => h
  | .ret, _, _, h => h
  | .exit _, _, _, h => h
  | .goto _, _, _, h => h
  | .outgrown, _, _, h => h
theorem wpIn_region_S {id : Nat} {a : Act} {w : World} (S : World → Prop) (hm : P.follows .mixedOrders = true) (h : anyS F n P .any ops (NoPan Q) S ops.size (Array.replicate ops.size false) a { w with drawn := w.drawn + 1 }) : (Code.region id ops true).wpIn F n P Q a w :=
  wpIn_mono (wpIn_region_any hm (anyS_any _ _ _ _ h)) NoPan.imp
end
end Go.Proofs.Ytdmjdpaehnhdoaa
