/- Frame: what is put and taken, of the program and of the reference, as one function of lists. -/
import Derived.Test.YtceggbbichfjnaaRefTakeO
import Derived.Test.YtceggbbichfjnaaBackW
namespace Go.Proofs.Ytceggbbichfjnaa.FrameTells
open Go.ChangeShapes Go.WideShapes Go.ChangeAt Go.RowKit
open FrameBack (framed_lt)
set_option linter.unusedSimpArgs false
set_option linter.unusedVariables false
instance (l : List Nat) : Decidable (OkT l) := by unfold OkT; infer_instance
def takeE (l : List Nat) : Int := if l.length < 9 then 40 else if l.drop (l.length - 4) = told (crc (l.take (l.length - 4))) then (if l.getD 0 0 = 72 ∧ l.getD 1 0 = 1 ∧ l.getD 3 0 * 256 + l.getD 4 0 = l.length - 9 ∧ l.length - 9 ≤ 4096 then 0 else 41) else 42
def takeC (l : List Nat) : List Nat := if OkT l then content l else []
def takeK (l : List Nat) : Nat := if OkT l then l.getD 2 0 else 0
def putS (kind : Nat) (l : List Nat) : List Nat := if l.length ≤ 4096 then framed kind l else []
def putE (l : List Nat) : Int := if l.length ≤ 4096 then 0 else 4
theorem nil_row (w : World) (base : Nat) : w.ownsRow base 5 1 (.slice none 0 0) 0 (bytes []) := World.ownsRow_nil w base 5 1
theorem takeC_lt {l : List Nat} (hl : ∀ b ∈ l, b < 256) : ∀ b ∈ takeC l, b < 256 := by
  unfold takeC
  split
  · exact fun b hb => hl b (List.mem_of_mem_drop (List.mem_of_mem_take hb))
  · simp
theorem putS_lt {kind : Nat} {l : List Nat} (hk : kind < 256) (hl : ∀ b ∈ l, b < 256) : ∀ b ∈ putS kind l, b < 256 := by
  unfold putS
  split
  · exact framed_lt hk (by assumption) hl
  · simp
def PutU (w : World) (kind : Nat) (l : List Nat) (n : Nat) (en : Ending) (w' : World) : Prop := ∃ A c, en = .returned (.tuple #[.slice A (putS kind l).length c, .int .i64 (putE l)]) ∧ w'.ownsRow w.heap.size 5 1 (.slice A (putS kind l).length c) (putS kind l).length (bytes (putS kind l)) ∧ Below w.heap.size w w'
def PutR (w : World) (kind : Nat) (l : List Nat) (n : Nat) (en : Ending) (w' : World) : Prop := ∃ A c, en = .returned (.tuple #[.slice A (putS kind l).length c, .int .i64 (putE l)]) ∧ Reads w' w'.heap.size 1 A (putS kind l).length (bytes (putS kind l)) ∧ Below w.heap.size w w'
def TakeU (w : World) (l : List Nat) (en : Ending) (w' : World) : Prop := ∃ A c, en = .returned (.tuple #[.int .u8 (takeK l : Nat), .slice A (takeC l).length c, .int .i64 (takeE l)]) ∧ w'.ownsRow w.heap.size 5 1 (.slice A (takeC l).length c) (takeC l).length (bytes (takeC l)) ∧ Below w.heap.size w w'
def TakeR (w : World) (l : List Nat) (en : Ending) (w' : World) : Prop := ∃ A c, en = .returned (.tuple #[.int .u8 (takeK l : Nat), .slice A (takeC l).length c, .int .i64 (takeE l)]) ∧ Reads w' w'.heap.size 1 A (takeC l).length (bytes (takeC l)) ∧ Below w.heap.size w w'
theorem put_u (kind : Nat) (hk : kind < 256) (A : Option Addr) (n c : Nat) (l : List Nat) (hn : l.length = n) (hl : ∀ b ∈ l, b < 256) (w : World) (hR : Reads w w.heap.size 1 A n (bytes l)) :
    Calls Try.prog 10 #[.int .u8 (kind : Int), .slice A n c] w (PutU w kind l n) := by
  subst hn
  unfold PutU putS putE
  by_cases hm : l.length ≤ 4096
  · rw [if_pos hm, if_pos hm]
    refine (put_ok kind hk A c l hl hm w hR).mono ?_
    rintro en w' ⟨v, rfl, ho, hb⟩
    obtain ⟨g, cap, rfl, _, _⟩ := ho.form (by rw [framed_len]; omega)
    exact ⟨_, cap, rfl, ho, hb⟩
  · rw [if_neg hm, if_neg hm]
    refine (put_many kind A l.length c (by omega) w).mono ?_
    rintro en w' ⟨rfl, rfl⟩
    exact ⟨none, 0, rfl, nil_row _ _, Below.refl _ _⟩
theorem rput_u (kind : Nat) (hk : kind < 256) (A : Option Addr) (n c : Nat) (l : List Nat) (hn : l.length = n) (hl : ∀ b ∈ l, b < 256) (w : World) (hR : Reads w w.heap.size 1 A n (bytes l)) :
    Calls Try.prog 12 #[.int .u8 (kind : Int), .slice A n c] w (PutR w kind l n) := by
  subst hn
  unfold PutR putS putE
  by_cases hm : l.length ≤ 4096
  · rw [if_pos hm, if_pos hm]
    refine (rput_n kind hk A l.length c l rfl hl hm w hR).mono ?_
    rintro en w' ⟨g, cap, rfl, hc, hR', hb⟩
    have e : (framed kind l).length = l.length + 9 := by rw [framed_len]; omega
    rw [e]
    exact ⟨g, cap, rfl, hR', hb⟩
  · rw [if_neg hm, if_neg hm]
    refine (rput_many kind A l.length c (by omega) w).mono ?_
    rintro en w' ⟨rfl, rfl⟩
    exact ⟨none, 0, rfl, Reads.none_, Below.refl _ _⟩
theorem take_u (A : Option Addr) (n c : Nat) (l : List Nat) (hnl : l.length = n) (hm : n ≤ 10000) (hc : n ≤ c) (hl : ∀ b ∈ l, b < 256) (w : World) (hR : Reads w w.heap.size 1 A n (bytes l)) :
    Calls Try.prog 11 #[.slice A n c] w (TakeU w l) := by
  unfold TakeU takeC takeK takeE
  subst hnl
  rcases Nat.lt_or_ge l.length 9 with h9 | h9
  · rw [if_neg (fun h => by have := h.1; omega), if_neg (fun h => by have := h.1; omega), if_pos h9]
    refine (take_short A l.length c h9 w).mono ?_
    rintro en w' ⟨rfl, rfl⟩
    exact ⟨none, 0, rfl, nil_row _ _, Below.refl _ _⟩
  · obtain ⟨ad, hA, _⟩ := hR.2 (by omega)
    subst hA
    rw [if_neg (show ¬ l.length < 9 by omega)]
    by_cases hs : l.drop (l.length - 4) = told (crc (l.take (l.length - 4)))
    · rw [if_pos hs]
      by_cases hf : (l.getD 0 0 = 72 ∧ l.getD 1 0 = 1 ∧ l.getD 3 0 * 256 + l.getD 4 0 = l.length - 9 ∧ l.length - 9 ≤ 4096)
      · rw [if_pos ⟨h9, hs, hf⟩, if_pos ⟨h9, hs, hf⟩, if_pos hf]
        refine (take_ok ad l.length c l rfl h9 hm hc hl w hR hs hf).mono ?_
        rintro en w' ⟨v, rfl, ho, hb⟩
        obtain ⟨A', c', rfl, hc', hR'⟩ := ho.slice
        exact ⟨A', c', rfl, ho, hb⟩
      · rw [if_neg (fun h => hf h.2.2), if_neg (fun h => hf h.2.2), if_neg hf]
        refine (take_form ad l.length c l rfl h9 hm hc hl w hR hs hf).mono ?_
        rintro en w' ⟨rfl, hb⟩
        exact ⟨none, 0, rfl, nil_row _ _, hb⟩
    · rw [if_neg (fun h => hs h.2.1), if_neg (fun h => hs h.2.1), if_neg hs]
      refine (take_sum ad l.length c l rfl h9 hm hc hl w hR hs).mono ?_
      rintro en w' ⟨rfl, hb⟩
      exact ⟨none, 0, rfl, nil_row _ _, hb⟩
theorem rtake_u (A : Option Addr) (n c : Nat) (l : List Nat) (hnl : l.length = n) (hm : n ≤ 10000) (hc : n ≤ c) (hl : ∀ b ∈ l, b < 256) (w : World) (hR : Reads w w.heap.size 1 A n (bytes l)) :
    Calls Try.prog 13 #[.slice A n c] w (TakeR w l) := by
  unfold TakeR takeC takeK takeE
  subst hnl
  rcases Nat.lt_or_ge l.length 9 with h9 | h9
  · rw [if_neg (fun h => by have := h.1; omega), if_neg (fun h => by have := h.1; omega), if_pos h9]
    refine (rtake_short A l.length c h9 w).mono ?_
    rintro en w' ⟨rfl, rfl⟩
    exact ⟨none, 0, rfl, Reads.none_, Below.refl _ _⟩
  · obtain ⟨ad, hA, _⟩ := hR.2 (by omega)
    subst hA
    rw [if_neg (show ¬ l.length < 9 by omega)]
    by_cases hs : l.drop (l.length - 4) = told (crc (l.take (l.length - 4)))
    · rw [if_pos hs]
      by_cases hf : (l.getD 0 0 = 72 ∧ l.getD 1 0 = 1 ∧ l.getD 3 0 * 256 + l.getD 4 0 = l.length - 9 ∧ l.length - 9 ≤ 4096)
      · rw [if_pos ⟨h9, hs, hf⟩, if_pos ⟨h9, hs, hf⟩, if_pos hf]
        refine (rtake_ok ad l.length c l rfl h9 hm hc hl w hR hs hf).mono ?_
        rintro en w' ⟨v, rfl, ho, hb⟩
        obtain ⟨A', c', rfl, hc', hR'⟩ := ho.slice
        exact ⟨A', c', rfl, hR', hb⟩
      · rw [if_neg (fun h => hf h.2.2), if_neg (fun h => hf h.2.2), if_neg hf]
        refine (rtake_form ad l.length c l rfl h9 hm hc hl w hR hs hf).mono ?_
        rintro en w' ⟨rfl, hb⟩
        exact ⟨none, 0, rfl, Reads.none_, hb⟩
    · rw [if_neg (fun h => hs h.2.1), if_neg (fun h => hs h.2.1), if_neg hs]
      refine (rtake_sum ad l.length c l rfl h9 hm hc hl w hR hs).mono ?_
      rintro en w' ⟨rfl, hb⟩
      exact ⟨none, 0, rfl, Reads.none_, hb⟩
end Go.Proofs.Ytceggbbichfjnaa.FrameTells
