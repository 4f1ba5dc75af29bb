/- Frame: what was framed is taken, and what is taken was framed so: of lists, no program in sight. -/
import Derived.Test.YtjmhefkmpfkpbaaTakeW
namespace Go.Proofs.Ytjmhefkmpfkpbaa
open Go.ChangeShapes Go.WideShapes Go.ChangeAt Go.RowKit
set_option linter.unusedSimpArgs false
/-- Bytes that are a frame. -/
def OkT (l : List Nat) : Prop := 9 ≤ l.length ∧ l.drop (l.length - 4) = told (crc (l.take (l.length - 4))) ∧ (l.getD 0 0 = 72 ∧ l.getD 1 0 = 1 ∧ l.getD 3 0 * 256 + l.getD 4 0 = l.length - 9 ∧ l.length - 9 ≤ 4096)
theorem framed_split (kind : Nat) (l : List Nat) : (framed kind l).take ((framed kind l).length - 4) = headed kind l ∧ (framed kind l).drop ((framed kind l).length - 4) = told (crc (headed kind l)) := by
  have e : (framed kind l).length - 4 = (headed kind l).length := by rw [framed_len, headed_len]; omega
  rw [e]
  unfold framed
  exact ⟨List.take_left' rfl, List.drop_left' rfl⟩
theorem framed_ok {kind : Nat} {l : List Nat} (hm : l.length ≤ 4096) : OkT (framed kind l) := by
  obtain ⟨h1, h2⟩ := framed_split kind l
  refine ⟨by rw [framed_len]; omega, by rw [h1, h2], ?_⟩
  rw [framed_len]
  simp [framed, headed]
  omega
theorem framed_content (kind : Nat) (l : List Nat) : content (framed kind l) = l := by
  unfold content
  rw [framed_len]
  have : (framed kind l).drop 5 = l ++ told (crc (headed kind l)) := by simp [framed, headed]
  rw [this]
  apply List.take_left'
  omega
theorem framed_kind (kind : Nat) (l : List Nat) : (framed kind l).getD 2 0 = kind := by simp [framed, headed]
theorem framed_back {t : List Nat} (h : OkT t) (hl : ∀ b ∈ t, b < 256) : framed (t.getD 2 0) (content t) = t := by
  obtain ⟨h9, hs, h0, h1, h34, hm⟩ := h
  have hd : headed (t.getD 2 0) (content t) = t.take (t.length - 4) := by
    have hlen : (content t).length = t.length - 9 := by simp [content]; omega
    unfold headed
    rw [hlen]
    rcases t with _ | ⟨a0, _ | ⟨a1, _ | ⟨a2, _ | ⟨a3, _ | ⟨a4, r⟩⟩⟩⟩⟩
    iterate 5 (exact absurd h9 (by simp))
    have b4 : a4 < 256 := hl a4 (by simp)
    simp only [List.getD_cons_zero, List.getD_cons_succ, List.length_cons] at h0 h1 h34 h9 hm ⊢
    subst h0 h1
    simp only [content, List.length_cons, List.drop_succ_cons, List.drop_zero]
    have e : r.length + 1 + 1 + 1 + 1 + 1 - 4 = (r.length - 4) + 1 + 1 + 1 + 1 + 1 := by omega
    have e2 : r.length + 1 + 1 + 1 + 1 + 1 - 9 = r.length - 4 := by omega
    have e3 : (r.length - 4) / 256 = a3 := by omega
    have e4 : (r.length - 4) % 256 = a4 := by omega
    rw [e, e2, e3, e4]
    simp only [List.take_succ_cons, List.cons_append, List.nil_append]
  unfold framed
  rw [hd, ← hs]
  exact List.take_append_drop _ _
theorem Owns.slice {w0 w : World} {v : Value} {l : List Nat} (h : Owns w0 w v l) : ∃ A c, v = .slice A l.length c ∧ l.length ≤ c ∧ Reads w w.heap.size 1 A l.length (bytes l) := by
  have h' := h
  rcases h'.2 with ⟨hv, hx⟩ | ⟨g, cap, cur, hv, _, _, hnc, _⟩
  · subst hv
    have : l.length = 0 := by have := h.1; simp_all
    rw [this]
    exact ⟨none, 0, rfl, Nat.le_refl _, by
      have e : l = [] := List.eq_nil_of_length_eq_zero this
      subst e
      exact Reads.none_⟩
  · subst hv
    exact ⟨_, _, rfl, by omega, Reads.of_own h⟩
def TakeAny (w : World) (l : List Nat) (en : Ending) (w' : World) : Prop :=
  ((∃ e : Int, (e == 0) = false ∧ (e != 0) = true ∧ en = .returned (.tuple #[.int .u8 0, .slice none 0 0, .int .i64 e]) ∧ ¬ OkT l) ∨ OkT l ∧ ∃ A c, en = .returned (.tuple #[.int .u8 (l.getD 2 0 : Nat), .slice A (content l).length c, .int .i64 0]) ∧ (content l).length ≤ c ∧ Reads w' w'.heap.size 1 A (content l).length (bytes (content l))) ∧ Below w.heap.size w w'
theorem take_any (A : Option Addr) (n c : Nat) (l : List Nat) (hnl : l.length = n) (hm : n ≤ 10000) (hc : n ≤ c) (hl : ∀ b ∈ l, b < 256) (w : World) (hR : Reads w w.heap.size 1 A n (bytes l)) :
    Calls Try.prog 23 #[.slice A n c] w (TakeAny w l) := by
  rcases Nat.lt_or_ge n 9 with h9 | h9
  · refine (take_short A n c h9 w).mono ?_
    rintro en w' ⟨rfl, rfl⟩
    exact ⟨Or.inl ⟨40, by decide, by decide, rfl, fun h => by have := h.1; omega⟩, Below.refl _ _⟩
  · obtain ⟨ad, hA, _⟩ := hR.2 (by omega)
    subst hA
    by_cases hs : l.drop (n - 4) = told (crc (l.take (n - 4)))
    · by_cases hf : (l.getD 0 0 = 72 ∧ l.getD 1 0 = 1 ∧ l.getD 3 0 * 256 + l.getD 4 0 = n - 9 ∧ n - 9 ≤ 4096)
      · refine (take_ok ad n c l hnl h9 hm hc hl w hR hs hf).mono ?_
        rintro en w' ⟨v, rfl, ho, hb⟩
        obtain ⟨A', c', rfl, hc', hR'⟩ := ho.slice
        exact ⟨Or.inr ⟨⟨by omega, by rw [hnl]; exact hs, by rw [hnl]; exact hf⟩, A', c', rfl, hc', hR'⟩, hb⟩
      · refine (take_form ad n c l hnl h9 hm hc hl w hR hs hf).mono ?_
        rintro en w' ⟨rfl, hb⟩
        exact ⟨Or.inl ⟨41, by decide, by decide, rfl, fun h => hf (by have := h.2.2; rw [hnl] at this; exact this)⟩, hb⟩
    · refine (take_sum ad n c l hnl h9 hm hc hl w hR hs).mono ?_
      rintro en w' ⟨rfl, hb⟩
      exact ⟨Or.inl ⟨42, by decide, by decide, rfl, fun h => hs (by have := h.2.1; rw [hnl] at this; exact this)⟩, hb⟩
end Go.Proofs.Ytjmhefkmpfkpbaa
