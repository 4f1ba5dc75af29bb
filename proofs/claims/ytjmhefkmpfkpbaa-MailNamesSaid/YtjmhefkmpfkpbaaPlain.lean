/- Frame, plain: the sum's word as a number: a step of one bit, eight of them, a byte, a list of bytes. Nothing of the program is here but the model's operators on 32 bits. -/
import Derived.Laws.BitsAllLaws
namespace Go.Proofs.Ytjmhefkmpfkpbaa
open Go

/-- One bit's step. -/
def step (w : Nat) : Nat := (w / 2) ^^^ (if w % 2 = 1 then 3988292384 else 0)
def steps : Nat → Nat → Nat
  | 0, w => w
  | n + 1, w => steps n (step w)
theorem steps_succ (n w : Nat) : steps (n + 1) w = step (steps n w) := by
  induction n generalizing w with
  | zero => rfl
  | succ n ih => rw [steps, ih, steps]
theorem steps_add (m n w : Nat) : steps (m + n) w = steps m (steps n w) := by
  induction m with
  | zero => simp [steps]
  | succ m ih => rw [show m + 1 + n = (m + n) + 1 by omega, steps_succ, ih, ← steps_succ]
theorem step_lt {w : Nat} (h : w < 4294967296) : step w < 4294967296 := by
  unfold step
  exact Nat.xor_lt_two_pow (n := 32) (by omega) (by split <;> omega)
theorem steps_lt {w : Nat} (h : w < 4294967296) (n : Nat) : steps n w < 4294967296 := by
  induction n generalizing w with
  | zero => exact h
  | succ n ih => exact ih (step_lt h)
/-- A byte is taken in. -/
def feed (w b : Nat) : Nat := steps 8 (w ^^^ b)
theorem feed_lt {w b : Nat} (h : w < 4294967296) (hb : b < 256) : feed w b < 4294967296 :=
  steps_lt (Nat.xor_lt_two_pow (n := 32) h (by omega)) 8
/-- The word behind bytes. -/
def word (w : Nat) (l : List Nat) : Nat := l.foldl feed w
theorem word_lt {l : List Nat} : ∀ {w : Nat}, w < 4294967296 → (∀ b ∈ l, b < 256) → word w l < 4294967296 := by
  induction l with
  | nil => intro w h _; exact h
  | cons b l ih => intro w h hl; exact ih (feed_lt h (hl b (by simp))) (fun c hc => hl c (by simp [hc]))
theorem word_snoc (w : Nat) (l : List Nat) (b : Nat) : word w (l ++ [b]) = feed (word w l) b := by simp [word]
theorem word_append (w : Nat) (l m : List Nat) : word w (l ++ m) = word (word w l) m := by simp [word]
/-- The sum of bytes. -/
def crc (l : List Nat) : Nat := 4294967295 - word 4294967295 l

/-- A sum as bytes; a frame of a content. -/
def told (s : Nat) : List Nat := [s % 256, s / 256 % 256, s / 65536 % 256, s / 16777216]
def headed (kind : Nat) (l : List Nat) : List Nat := [72, 1, kind, l.length / 256, l.length % 256] ++ l
def framed (kind : Nat) (l : List Nat) : List Nat := headed kind l ++ told (crc (headed kind l))

theorem headed_len (kind : Nat) (l : List Nat) : (headed kind l).length = 5 + l.length := by simp [headed]; omega
theorem framed_len (kind : Nat) (l : List Nat) : (framed kind l).length = 5 + l.length + 4 := by simp [framed, headed_len, told]
theorem told_lt {s : Nat} (h : s < 4294967296) : ∀ b ∈ told s, b < 256 := by
  intro b hb
  simp only [told, List.mem_cons, List.not_mem_nil, or_false] at hb
  omega
theorem headed_lt {kind : Nat} {l : List Nat} (hk : kind < 256) (hm : l.length ≤ 4096) (hl : ∀ b ∈ l, b < 256) : ∀ b ∈ headed kind l, b < 256 := by
  intro b hb
  simp only [headed, List.mem_append, List.mem_cons, List.not_mem_nil, or_false] at hb
  rcases hb with hb | hb
  · omega
  · exact hl b hb
theorem crc_lt (l : List Nat) : crc l < 4294967296 := by unfold crc; omega

/-! ### The model's operators -/
theorem x32 (a b : Nat) (ha : a < 4294967296) (hb : b < 4294967296) : bits .xor .u32 (a : Int) (b : Int) = ((a ^^^ b : Nat) : Int) := u32_xor_nat a b ha hb
theorem round_val (x : Nat) (h : x < 4294967296) : bits .xor .u32 ((x : Int) / 2) (bits .and .u32 3988292384 (-bits .and .u32 (x : Int) 1 % 4294967296)) = (step x : Nat) := by
  have e1 : bits .and .u32 (x : Int) 1 = ((x % 2 : Nat) : Int) := by
    have := u32_and_nat x 1 h (by omega)
    rw [Nat.and_one_is_mod] at this
    exact this
  rw [e1]
  unfold step
  rcases Nat.mod_two_eq_zero_or_one x with h0 | h0
  · rw [h0, if_neg (by omega)]
    have e2 : bits .and .u32 3988292384 (-((0 : Nat) : Int) % 4294967296) = ((0 : Nat) : Int) := by
      have := u32_and_nat 3988292384 0 (by omega) (by omega)
      simpa using this
    rw [e2]
    have := u32_xor_nat (x / 2) 0 (by omega) (by omega)
    rw [← this]
    congr 1
  · rw [h0, if_pos rfl]
    have e2 : bits .and .u32 3988292384 (-((1 : Nat) : Int) % 4294967296) = ((3988292384 : Nat) : Int) := by
      have := u32_and_nat 3988292384 4294967295 (by omega) (by omega)
      have e3 : (-((1 : Nat) : Int) % 4294967296) = ((4294967295 : Nat) : Int) := by omega
      rw [e3]
      refine Eq.trans ?_ (this.trans ?_)
      · rfl
      · congr 1
    rw [e2]
    have := u32_xor_nat (x / 2) 3988292384 (by omega) (by omega)
    rw [← this]
    congr 1
theorem ones_xor (x : Nat) (h : x < 4294967296) : 4294967295 ^^^ x = 4294967295 - x := by
  have e : (BitVec.allOnes 32 ^^^ BitVec.ofNat 32 x).toNat = (~~~ BitVec.ofNat 32 x).toNat := by rw [BitVec.allOnes_xor]
  rw [BitVec.toNat_xor, BitVec.toNat_not, BitVec.toNat_allOnes, BitVec.toNat_ofNat, Nat.mod_eq_of_lt (by omega)] at e
  have : (2 : Nat) ^ 32 - 1 = 4294967295 := by decide
  rw [this] at e
  exact e
theorem not_val (x : Nat) (h : x < 4294967296) : bits .xor .u32 IntKind.u32.max (x : Int) = ((4294967295 - x : Nat) : Int) := by
  rw [← ones_xor x h, ← u32_xor_nat 4294967295 x (by omega) h]
  rfl
end Go.Proofs.Ytjmhefkmpfkpbaa
