/- Frame, plain: sums tell a byte, and its place: two contents that differ in one byte, or in two neighbours, have other sums. -/
import Derived.Test.YtceggbbichfjnaaPlain
namespace Go.Proofs.Ytceggbbichfjnaa
open Go

theorem half_xor (a b : Nat) : (a ^^^ b) / 2 = a / 2 ^^^ b / 2 := by
  have := Nat.shiftRight_xor_distrib (a := a) (b := b) (i := 1)
  simpa [Nat.shiftRight_eq_div_pow] using this
theorem step_xor (a b : Nat) : step (a ^^^ b) = step a ^^^ step b := by
  unfold step
  rw [half_xor]
  have hm : (a ^^^ b) % 2 = (a % 2) ^^^ (b % 2) := Nat.xor_mod_two_pow (n := 1)
  rcases Nat.mod_two_eq_zero_or_one a with ha | ha <;> rcases Nat.mod_two_eq_zero_or_one b with hb | hb <;> rw [hm, ha, hb] <;> simp
  · ac_rfl
  · ac_rfl
  · rw [Nat.xor_assoc (a / 2), ← Nat.xor_assoc 3988292384 (b / 2), Nat.xor_comm 3988292384 (b / 2), Nat.xor_assoc, Nat.xor_self, Nat.xor_zero]
theorem steps_xor (n a b : Nat) : steps n (a ^^^ b) = steps n a ^^^ steps n b := by
  induction n generalizing a b with
  | zero => rfl
  | succ n ih => rw [steps, step_xor, ih, steps, steps]
theorem step_zero {w : Nat} (h : w < 4294967296) (h0 : step w = 0) : w = 0 := by
  unfold step at h0
  rcases Nat.mod_two_eq_zero_or_one w with hw | hw
  · rw [if_neg (by omega), Nat.xor_zero] at h0
    omega
  · rw [if_pos hw] at h0
    have : w / 2 = 3988292384 := by
      have h2 := congrArg (· ^^^ 3988292384) h0
      simpa [Nat.xor_assoc] using h2
    omega
theorem steps_zero {w : Nat} (h : w < 4294967296) (n : Nat) (h0 : steps n w = 0) : w = 0 := by
  induction n generalizing w with
  | zero => exact h0
  | succ n ih => exact step_zero h (ih (step_lt h) h0)
/-- What lies between two words when the same bytes are taken in. -/
theorem word_diff (l : List Nat) : ∀ (a b : Nat), word a l ^^^ word b l = steps (8 * l.length) (a ^^^ b) := by
  induction l with
  | nil => intro a b; rfl
  | cons x l ih =>
    intro a b
    show word (feed a x) l ^^^ word (feed b x) l = _
    rw [ih]
    have e : feed a x ^^^ feed b x = steps 8 (a ^^^ b) := by
      unfold feed
      rw [← steps_xor]
      congr 1
      rw [Nat.xor_assoc, Nat.xor_comm b x, ← Nat.xor_assoc x, Nat.xor_self, Nat.zero_xor]
    rw [e, ← steps_add]
    congr 1
theorem xor_eq_zero {a b : Nat} (h : a ^^^ b = 0) : a = b := by
  have := congrArg (· ^^^ b) h
  simpa [Nat.xor_assoc] using this
theorem word_inj {l : List Nat} {a b : Nat} (ha : a < 4294967296) (hb : b < 4294967296) (h : word a l = word b l) : a = b := by
  have := word_diff l a b
  rw [h, Nat.xor_self] at this
  exact xor_eq_zero (steps_zero (Nat.xor_lt_two_pow (n := 32) ha hb) _ this.symm)
theorem crc_inj {l m : List Nat} (hl : ∀ b ∈ l, b < 256) (hm : ∀ b ∈ m, b < 256) : crc l = crc m ↔ word 4294967295 l = word 4294967295 m := by
  have h1 := word_lt (l := l) (w := 4294967295) (by omega) hl
  have h2 := word_lt (l := m) (w := 4294967295) (by omega) hm
  unfold crc
  omega
theorem table : ∀ x, x < 256 → steps 8 x < 256 → x = 0 := by decide +kernel
/-- Two words, fed a byte each that differ by x, then bytes that differ by y, are one just if both are 0. -/
theorem two_diff {v b1 b0 x y : Nat} (hx : x < 256) (hy : y < 256)
    (h : feed (feed v (b1 ^^^ x)) (b0 ^^^ y) = feed (feed v b1) b0) : x = 0 ∧ y = 0 := by
  have e1 : feed v (b1 ^^^ x) = feed v b1 ^^^ steps 8 x := by
    unfold feed
    rw [← Nat.xor_assoc, steps_xor]
  have hs : steps 8 x < 4294967296 := steps_lt (by omega) 8
  have e2 : feed (feed v (b1 ^^^ x)) (b0 ^^^ y) = feed (feed v b1) b0 ^^^ steps 8 (steps 8 x ^^^ y) := by
    rw [e1]
    generalize feed v b1 = u
    unfold feed
    rw [← steps_xor]
    congr 1
    ac_rfl
  rw [e2] at h
  have h3 : steps 8 (steps 8 x ^^^ y) = 0 := by
    have := congrArg (fun z => feed (feed v b1) b0 ^^^ z) h
    simp only [Nat.xor_self, ← Nat.xor_assoc, Nat.zero_xor] at this
    exact this
  have h4 := steps_zero (Nat.xor_lt_two_pow (n := 32) hs (by omega)) 8 h3
  have h5 := xor_eq_zero h4
  have hx0 := table x hx (by omega)
  subst hx0
  exact ⟨rfl, by rw [← h5]; rfl⟩
theorem one_diff {v b0 y : Nat} (hy : y < 256) (h : feed v (b0 ^^^ y) = feed v b0) : y = 0 := by
  have e1 : feed v (b0 ^^^ y) = feed v b0 ^^^ steps 8 y := by
    unfold feed
    rw [← Nat.xor_assoc, steps_xor]
  rw [e1] at h
  have h3 : steps 8 y = 0 := by
    have := congrArg (fun z => feed v b0 ^^^ z) h
    simp only [Nat.xor_self, ← Nat.xor_assoc, Nat.zero_xor] at this
    exact this
  exact steps_zero (by omega) 8 h3

theorem word_cons (w b : Nat) (l : List Nat) : word w (b :: l) = word (feed w b) l := rfl
/-- A content, its byte k turned by x, and the one ahead of it, if there is one, by y. -/
def moved (l : List Nat) (k x y : Nat) : List Nat := if k = 0 then l.set k (l.getD k 0 ^^^ x) else (l.set k (l.getD k 0 ^^^ x)).set (k - 1) (l.getD (k - 1) 0 ^^^ y)
theorem split_two : ∀ (j : Nat) (l : List Nat), j + 1 < l.length → ∃ p b1 b0 t, l = p ++ b1 :: b0 :: t ∧ p.length = j
  | 0, [], h => by simp at h
  | 0, [_], h => by simp at h
  | 0, b1 :: b0 :: t, _ => ⟨[], b1, b0, t, rfl, rfl⟩
  | j + 1, [], h => by simp at h
  | j + 1, a :: l, h => by
    obtain ⟨p, b1, b0, t, e, hp⟩ := split_two j l (by simpa using h)
    exact ⟨a :: p, b1, b0, t, by rw [e]; rfl, by simp [hp]⟩
theorem moved_len (l : List Nat) (k x y : Nat) : (moved l k x y).length = l.length := by
  unfold moved; split <;> simp
theorem moved_lt {l : List Nat} {k x y : Nat} (hl : ∀ b ∈ l, b < 256) (hx : x < 256) (hy : y < 256) : ∀ b ∈ moved l k x y, b < 256 := by
  have hg : ∀ i, l.getD i 0 < 256 := fun i => by
    rw [List.getD_eq_getElem?_getD]
    rcases Nat.lt_or_ge i l.length with h | h
    · rw [List.getElem?_eq_getElem h]; exact hl _ (List.getElem_mem h)
    · rw [List.getElem?_eq_none h]; simp
  intro b hb
  unfold moved at hb
  split at hb
  · rcases List.mem_or_eq_of_mem_set hb with h | h
    · exact hl b h
    · rw [h]; exact Nat.xor_lt_two_pow (n := 8) (hg k) hx
  · rcases List.mem_or_eq_of_mem_set hb with h | h
    · rcases List.mem_or_eq_of_mem_set h with h | h
      · exact hl b h
      · rw [h]; exact Nat.xor_lt_two_pow (n := 8) (hg k) hx
    · rw [h]; exact Nat.xor_lt_two_pow (n := 8) (hg (k - 1)) hy
/-- THE LAW: sums are the same just where nothing was turned. -/
theorem moves {l : List Nat} {k x y : Nat} (hk : k < l.length) (hl : ∀ b ∈ l, b < 256) (hx : x < 256) (hy : y < 256) : crc (moved l k x y) = crc l ↔ x = 0 ∧ (y = 0 ∨ k = 0) := by
  rw [crc_inj (moved_lt hl hx hy) hl]
  rcases k with _ | j
  · obtain ⟨b0, t, rfl⟩ : ∃ b0 t, l = b0 :: t := by
      cases l with
      | nil => simp at hk
      | cons b t => exact ⟨b, t, rfl⟩
    have hb : b0 < 256 := hl b0 (by simp)
    have ht : ∀ b ∈ t, b < 256 := fun b hb => hl b (by simp [hb])
    have e : moved (b0 :: t) 0 x y = (b0 ^^^ x) :: t := by simp [moved]
    rw [e]
    rw [word_cons, word_cons]
    constructor
    · intro h
      exact ⟨one_diff hx (word_inj (feed_lt (by omega) (Nat.xor_lt_two_pow (n := 8) hb hx)) (feed_lt (by omega) hb) h), Or.inr rfl⟩
    · rintro ⟨rfl, _⟩
      rw [Nat.xor_zero]
  · obtain ⟨p, b1, b0, t, rfl, rfl⟩ := split_two j l (by omega)
    have h1 : b1 < 256 := hl b1 (by simp)
    have h0 : b0 < 256 := hl b0 (by simp)
    have hp : ∀ b ∈ p, b < 256 := fun b hb => hl b (by simp [hb])
    have e : moved (p ++ b1 :: b0 :: t) (p.length + 1) x y = p ++ (b1 ^^^ y) :: (b0 ^^^ x) :: t := by
      simp [moved, List.set_append_right]
    rw [e, word_append, word_append]
    have hv := word_lt (l := p) (w := 4294967295) (by omega) hp
    generalize word 4294967295 p = v at hv ⊢
    rw [word_cons, word_cons, word_cons, word_cons]
    constructor
    · intro h
      obtain ⟨hy0, hx0⟩ := two_diff hy hx (word_inj (feed_lt (feed_lt hv (Nat.xor_lt_two_pow (n := 8) h1 hy)) (Nat.xor_lt_two_pow (n := 8) h0 hx)) (feed_lt (feed_lt hv h1) h0) h)
      exact ⟨hx0, Or.inl hy0⟩
    · rintro ⟨rfl, rfl | h⟩
      · rw [Nat.xor_zero, Nat.xor_zero]
      · omega
end Go.Proofs.Ytceggbbichfjnaa
