/- Frame, plain: the sum's word as a number: a step of one bit, eight of them, a byte, a list of bytes. Nothing of the program is here but the model's operators on 32 bits. | Frame: the contract of the program's Sum: of whatever bytes; it only reads. | Frame: the contracts of the program's told and Put. | Frame: a slice of bytes turned into a string; parts of a slice that reads as a list. -/
import Derived.Laws.BitsAllLaws
import Derived.WalkSpells
import Derived.WalkLawsBesides
import Derived.Lib.Hide
import Derived.Laws.IdiomStrings
import Derived.Lib.BufferRead
import Derived.Laws.Strings
import Derived.Test.YtjmhefkmpfkpbaaProg
import Derived.Test.YtjmhefkmpfkpbaaKA
namespace Go.Proofs.Ytjmhefkmpfkpbaa
open Go

/-- One bit's step. -/
def step (w : Nat) : Nat := (w / 2) ^^^ (if w % 2 = 1 then 3988292384 else 0)
def steps : Nat → Nat → Nat
  | 0, w => w
  | n + 1, w => steps n (step w)
theorem steps_succ (n w : Nat) : steps (n + 1) w = step (steps n w) := by
  induction n generalizing w with
  | zero => rfl
  | succ n ih => rw [steps, ih, steps]
theorem step_lt {w : Nat} (h : w < 4294967296) : step w < 4294967296 := by
  unfold step
  exact Nat.xor_lt_two_pow (n := 32) (by omega) (by split <;> omega)
theorem steps_lt {w : Nat} (h : w < 4294967296) (n : Nat) : steps n w < 4294967296 := by
  induction n generalizing w with
  | zero => exact h
  | succ n ih => exact ih (step_lt h)
/-- A byte is taken in. -/
def feed (w b : Nat) : Nat := steps 8 (w ^^^ b)
theorem feed_lt {w b : Nat} (h : w < 4294967296) (hb : b < 256) : feed w b < 4294967296 :=
  steps_lt (Nat.xor_lt_two_pow (n := 32) h (by omega)) 8
/-- The word behind bytes. -/
def word (w : Nat) (l : List Nat) : Nat := l.foldl feed w
theorem word_lt {l : List Nat} : ∀ {w : Nat}, w < 4294967296 → (∀ b ∈ l, b < 256) → word w l < 4294967296 := by
  induction l with
  | nil => intro w h _; exact h
  | cons b l ih => intro w h hl; exact ih (feed_lt h (hl b (by simp))) (fun c hc => hl c (by simp [hc]))
theorem word_snoc (w : Nat) (l : List Nat) (b : Nat) : word w (l ++ [b]) = feed (word w l) b := by simp [word]
/-- The sum of bytes. -/
def crc (l : List Nat) : Nat := 4294967295 - word 4294967295 l

/-- A sum as bytes; a frame of a content. -/
def told (s : Nat) : List Nat := [s % 256, s / 256 % 256, s / 65536 % 256, s / 16777216]
def headed (kind : Nat) (l : List Nat) : List Nat := [72, 1, kind, l.length / 256, l.length % 256] ++ l
def framed (kind : Nat) (l : List Nat) : List Nat := headed kind l ++ told (crc (headed kind l))

theorem headed_len (kind : Nat) (l : List Nat) : (headed kind l).length = 5 + l.length := by simp [headed]; omega
theorem framed_len (kind : Nat) (l : List Nat) : (framed kind l).length = 5 + l.length + 4 := by simp [framed, headed_len, told]
theorem told_lt {s : Nat} (h : s < 4294967296) : ∀ b ∈ told s, b < 256 := by
  intro b hb
  simp only [told, List.mem_cons, List.not_mem_nil, or_false] at hb
  omega
theorem headed_lt {kind : Nat} {l : List Nat} (hk : kind < 256) (hm : l.length ≤ 4096) (hl : ∀ b ∈ l, b < 256) : ∀ b ∈ headed kind l, b < 256 := by
  intro b hb
  simp only [headed, List.mem_append, List.mem_cons, List.not_mem_nil, or_false] at hb
  rcases hb with hb | hb
  · omega
  · exact hl b hb
theorem crc_lt (l : List Nat) : crc l < 4294967296 := by unfold crc; omega

/-! ### The model's operators -/
theorem x32 (a b : Nat) (ha : a < 4294967296) (hb : b < 4294967296) : bits .xor .u32 (a : Int) (b : Int) = ((a ^^^ b : Nat) : Int) := u32_xor_nat a b ha hb
theorem round_val (x : Nat) (h : x < 4294967296) : bits .xor .u32 ((x : Int) / 2) (bits .and .u32 3988292384 (-bits .and .u32 (x : Int) 1 % 4294967296)) = (step x : Nat) := by
  have e1 : bits .and .u32 (x : Int) 1 = ((x % 2 : Nat) : Int) := by
    have := u32_and_nat x 1 h (by omega)
    rw [Nat.and_one_is_mod] at this
    exact this
  rw [e1]
  unfold step
  rcases Nat.mod_two_eq_zero_or_one x with h0 | h0
  · rw [h0, if_neg (by omega)]
    have e2 : bits .and .u32 3988292384 (-((0 : Nat) : Int) % 4294967296) = ((0 : Nat) : Int) := by
      have := u32_and_nat 3988292384 0 (by omega) (by omega)
      simpa using this
    rw [e2]
    have := u32_xor_nat (x / 2) 0 (by omega) (by omega)
    rw [← this]
    congr 1
  · rw [h0, if_pos rfl]
    have e2 : bits .and .u32 3988292384 (-((1 : Nat) : Int) % 4294967296) = ((3988292384 : Nat) : Int) := by
      have := u32_and_nat 3988292384 4294967295 (by omega) (by omega)
      have e3 : (-((1 : Nat) : Int) % 4294967296) = ((4294967295 : Nat) : Int) := by omega
      rw [e3]
      refine Eq.trans ?_ (this.trans ?_)
      · rfl
      · congr 1
    rw [e2]
    have := u32_xor_nat (x / 2) 3988292384 (by omega) (by omega)
    rw [← this]
    congr 1
theorem ones_xor (x : Nat) (h : x < 4294967296) : 4294967295 ^^^ x = 4294967295 - x := by
  have e : (BitVec.allOnes 32 ^^^ BitVec.ofNat 32 x).toNat = (~~~ BitVec.ofNat 32 x).toNat := by rw [BitVec.allOnes_xor]
  rw [BitVec.toNat_xor, BitVec.toNat_not, BitVec.toNat_allOnes, BitVec.toNat_ofNat, Nat.mod_eq_of_lt (by omega)] at e
  have : (2 : Nat) ^ 32 - 1 = 4294967295 := by decide
  rw [this] at e
  exact e
theorem not_val (x : Nat) (h : x < 4294967296) : bits .xor .u32 IntKind.u32.max (x : Int) = ((4294967295 - x : Nat) : Int) := by
  rw [← ones_xor x h, ← u32_xor_nat 4294967295 x (by omega) h]
  rfl
end Go.Proofs.Ytjmhefkmpfkpbaa
namespace Go.Proofs.Ytjmhefkmpfkpbaa
open Go.ChangeShapes Go.WideShapes Go.ChangeAt Go.RowKit
set_option linter.unusedSimpArgs false

set_option maxHeartbeats 1000000 in
theorem add_any (v b : Nat) (hv : v < 4294967296) (hb : b < 256) (w : World) :
    Calls Try.prog 81 #[.int .u32 v, .int .u8 b] w fun en w' => en = .returned (.int .u32 (feed v b : Nat)) ∧ w = w' := by
  have hx : v ^^^ b < 4294967296 := Nat.xor_lt_two_pow (n := 32) hv (by omega)
  have e0 := x32 v b hv (by omega)
  have E1 : Hid (feed v b = steps 8 (v ^^^ b)) := rfl
  go_enter Try.func81, Try.ntmps81
  go_wp2
  go_loop [0, 10] (fun u i => ∃ k : Nat, k ≤ 8 ∧ i = .int .i64 k ∧ u = .int .u32 (steps k (v ^^^ b) : Nat)) (fun _ i => 8 - (intOf i).toNat)
  case atStart => exact ⟨0, by omega, rfl, rfl⟩
  case round =>
    clear e0
    obtain ⟨k, hk, rfl, rfl⟩ := hrel
    have hs := steps_lt hx k
    have hn := Lib.hid (steps_succ k (v ^^^ b))
    by_cases hlt : k < 8
    · have hr := Lib.hid (round_val _ hs)
      generalize steps k (v ^^^ b) = x at *
      go_wp2
      go_round
      case rel => exact ⟨k + 1, by omega, by go_num, by rw [hn.out, hr.out]⟩
      case measure => simp [intOf]; omega
    · have he := Lib.hid (show steps k (v ^^^ b) = feed v b by rw [E1.out, show k = 8 by omega])
      generalize steps k (v ^^^ b) = x at *
      go_wp2
      go_ret
      exact ⟨ret_int (by rw [he.out]), rfl⟩

abbrev bytes (l : List Nat) : List Value := l.map fun b : Nat => Value.int .u8 (b : Int)
set_option maxHeartbeats 1000000 in
theorem sum_any (A : Option Addr) (c B : Nat) (l : List Nat) (hl : ∀ b ∈ l, b < 256) (hm : l.length ≤ 1000000) (w : World) (hR : Reads w B 1 A l.length (bytes l)) :
    Calls Try.prog 51 #[.slice A l.length c] w fun en w' => en = .returned (.int .u32 (crc l : Nat)) ∧ w = w' := by
  go_enter Try.func51, Try.ntmps51
  go_wp2
  go_loop [4, 9] (fun u i => ∃ k : Nat, k ≤ l.length ∧ i = .int .i64 k ∧ u = .int .u32 (word 4294967295 (l.take k) : Nat)) (fun _ i => l.length - (intOf i).toNat)
  case atStart => exact ⟨0, by omega, rfl, rfl⟩
  case round =>
    obtain ⟨k, hk, rfl, rfl⟩ := hrel
    have hw := word_lt (l := l.take k) (w := 4294967295) (by omega) (fun b hb => hl b (List.mem_of_mem_take hb))
    by_cases hlt : k < l.length
    · obtain ⟨ad, u, rfl, hab, hu, cA⟩ := hR.at_ hlt
      obtain ⟨b, hb⟩ : ∃ b, b = l[k] := ⟨_, rfl⟩
      have hb2 : b < 256 := by rw [hb]; exact hl _ (List.getElem_mem hlt)
      have hu' : u = .int .u8 (b : Int) := by
        rw [List.getElem?_map, List.getElem?_eq_getElem hlt] at hu
        simp only [Option.map_some, Option.some.injEq] at hu
        rw [← hu, hb]
      subst hu'
      have hn := Lib.hid (show word 4294967295 (l.take (k + 1)) = feed (word 4294967295 (l.take k)) b by rw [List.take_succ_eq_append_getElem hlt, word_snoc, hb])
      clear hu hb
      generalize word 4294967295 (l.take k) = x at *
      go_wp2_with (go_at_call 81; refine (add_any x b hw hb2 _).mono ?_; rintro en w1 ⟨rfl, rfl⟩)
      go_round
      case rel => exact ⟨k + 1, by omega, by go_num, by rw [hn.out]⟩
      case measure => simp [intOf]; omega
    · have he := Lib.hid (show crc l = 4294967295 - word 4294967295 (l.take k) by unfold crc; rw [List.take_of_length_le (by omega)])
      generalize word 4294967295 (l.take k) = x at *
      go_wp2
      go_ret
      exact ⟨ret_int (by rw [he.out, not_val x hw]), rfl⟩
theorem sum_n (A : Option Addr) (n c B : Nat) (l : List Nat) (hn : l.length = n) (hl : ∀ b ∈ l, b < 256) (hm : n ≤ 1000000) (w : World) (hR : Reads w B 1 A n (bytes l)) :
    Calls Try.prog 51 #[.slice A n c] w fun en w' => en = .returned (.int .u32 (crc l : Nat)) ∧ w = w' := by
  subst hn
  exact sum_any A c B l hl hm w hR
theorem bytes_one (l : List Nat) : ∀ u ∈ bytes l, u.oneCell' = true := by
  intro u hu
  simp only [List.mem_map] at hu
  obtain ⟨b, _, rfl⟩ := hu
  rfl
end Go.Proofs.Ytjmhefkmpfkpbaa
namespace Go.Proofs.Ytjmhefkmpfkpbaa
open Go.ChangeShapes Go.WideShapes Go.ChangeAt Go.RowKit
set_option linter.unusedSimpArgs false
theorem finfo5 : (Try.prog.info? 5).map (fun i => (i.zero, i.size, i.bytes)) = some (some (.int .u8 0), 1, 1) := by kernel_rfl

theorem told_bytes (s : Nat) : bytes (told s) = [.int .u8 ((s : Int) % 256), .int .u8 ((s : Int) / 256 % 256), .int .u8 ((s : Int) / 65536 % 256), .int .u8 ((s : Int) / 16777216)] := by simp [told]
theorem headed_bytes (kind : Nat) (l : List Nat) : bytes (headed kind l) = [.int .u8 72, .int .u8 1, .int .u8 (kind : Int), .int .u8 ((l.length : Int) / 256), .int .u8 ((l.length : Int) % 256)] ++ bytes l := by simp [headed]
set_option maxHeartbeats 1000000 in
theorem told_any (s : Nat) (hs : s < 4294967296) (w : World) :
    Calls Try.prog 50 #[.int .u32 s] w fun en w' => en = .returned (.slice (some ⟨w.heap.size, 0, none⟩) 4 4) ∧ w' = w.alloc (.cells (bytes (told s)).toArray 5) := by
  go_enter Try.func50, Try.ntmps50
  go_wp2
  go_ret
  exact ⟨rfl, by rw [told_bytes]⟩
def Owns (w0 w : World) (v : Value) (l : List Nat) : Prop := w.ownsRow w0.heap.size 5 1 v l.length (bytes l)
def FPost (w : World) (kind : Nat) (l : List Nat) (en : Ending) (w' : World) : Prop := ∃ v, en = .returned (.tuple #[v, .int .i64 0]) ∧ Owns w w' v (framed kind l) ∧ Below w.heap.size w w'
set_option maxHeartbeats 2000000 in
theorem fput_ok (kind : Nat) (hk : kind < 256) (A : Option Addr) (c : Nat) (l : List Nat) (hl : ∀ b ∈ l, b < 256) (hm : l.length ≤ 4096) (w : World) (hR : Reads w w.heap.size 1 A l.length (bytes l)) :
    Calls Try.prog 24 #[.int .u8 kind, .slice A l.length c] w (FPost w kind l) := by
  obtain ⟨i0, hi0, hz0, hz1, hz2⟩ := info_parts finfo5
  have hmm : decide ((4096 : Int) < l.length) = false := by simp; omega
  have hml : l.length ≤ 4096 := hm
  have hx := headed_lt hk hm hl
  have hc := crc_lt (headed kind l)
  have hlen := Lib.hid (headed_len kind l)
  have hb := Lib.hid (headed_bytes kind l)
  go_enter Try.func24, Try.ntmps24
  go_wp2_with (first
    | (at_builtin; refine wpList_append_any _ rfl (.tmp 18) (.tmp 19) _ rfl w.heap.size 5 i0 _ 1 1 Try.underlying34 hi0 hz0 hz1 hz2 rfl (by omega) (.slice (some ⟨w.heap.size, 0, none⟩) 5 5) 5 [.int .u8 72, .int .u8 1, .int .u8 (kind : Int), .int .u8 ((l.length : Int) / 256), .int .u8 ((l.length : Int) % 256)] rfl (owns_new w w.heap.size (Nat.le_refl _) _ 5 5 rfl (by unfold maxLen; omega)) w.heap.size A l.length c (bytes l) rfl (hR.alloc (Nat.le_refl _) _) (bytes_one l) (by unfold maxLen; omega) (by omega) (by simp) ?_; intro v1 w1 hown1 hg1 hat1; rw [← hb.out] at hown1; obtain ⟨g1, cap1, rfl, hg1b, hg1l⟩ := hown1.form (by omega); have hBel1 : Below w.heap.size w w1 := ((Below.refl _ w).alloc (Nat.le_refl _) _).grown hg1 (by simp) (by intro k hk; simp [Value.ownBlock] at hk; omega))
    | (go_at_call 51; refine (sum_n (some ⟨g1, 0, none⟩) (5 + l.length) cap1 w1.heap.size (headed kind l) hlen.out hx (by omega) _ (Reads.of_own hown1)).mono ?_; rintro en w2 ⟨rfl, rfl⟩)
    | (go_at_call 50; refine (told_any _ hc _).mono ?_; rintro en w2 ⟨rfl, rfl⟩)
    | (at_builtin; refine wpList_append_any _ rfl (.tmp 21) (.tmp 24) _ rfl w.heap.size 5 i0 _ 1 1 Try.underlying34 hi0 hz0 hz1 hz2 rfl (by omega) (.slice (some ⟨g1, 0, none⟩) (5 + l.length) cap1) (5 + l.length) (bytes (headed kind l)) rfl (hown1.alloc _) (w1.heap.size + 1) (some ⟨w1.heap.size, 0, none⟩) 4 4 (bytes (told (crc (headed kind l)))) rfl (reads_new w1 _ 5 4 rfl) (bytes_one _) (by unfold maxLen; omega) (by omega) (by have := hBel1.size; simp; omega) ?_; intro v2 w2 hown2 hg2 hat2))
  go_ret2
  refine ⟨v2, rfl, ?_, (hBel1.alloc hBel1.size _).grown hg2 (by have := hBel1.size; simp; omega) (by intro k hk; simp [Value.ownBlock] at hk; omega)⟩
  unfold Owns
  rw [framed_len, framed, bytes, List.map_append]
  exact hown2
end Go.Proofs.Ytjmhefkmpfkpbaa
namespace Go.Proofs.Ytjmhefkmpfkpbaa
open Go.ChangeShapes Go.WideShapes Go.ChangeAt Go.RowKit
set_option linter.unusedSimpArgs false
theorem Reads.take_ {w : World} {B n k : Nat} {A : Option Addr} {xs : List Value} (h : Reads w B 1 A n xs) (hk : k ≤ n) : Reads w B 1 A k (xs.take k) := by
  refine ⟨by have := h.1; simp; omega, fun hp => ?_⟩
  obtain ⟨ad, e, hb, hc⟩ := h.2 (by omega)
  refine ⟨ad, e, hb, fun j u hu => hc j u ?_⟩
  rw [List.getElem?_take] at hu
  split at hu
  · exact hu
  · cases hu
/-- The string of bytes. -/
def strOf (l : List Nat) : ByteArray := ⟨(l.map UInt8.ofNat).toArray⟩
theorem strOf_inj {l m : List Nat} (hl : ∀ b ∈ l, b < 256) (hm : ∀ b ∈ m, b < 256) : ((strOf l).toList == (strOf m).toList) = decide (l = m) := by
  have e : ∀ k : List Nat, (strOf k).toList = k.map UInt8.ofNat := fun k => by simp [strOf]
  rw [e, e]
  by_cases h : l = m
  · subst h; simp
  · rw [decide_eq_false h, beq_eq_false_iff_ne]
    intro hh
    apply h
    have := congrArg (List.map UInt8.toNat) hh
    simp only [List.map_map] at this
    have e2 : ∀ k : List Nat, (∀ b ∈ k, b < 256) → k.map (UInt8.toNat ∘ UInt8.ofNat) = k := fun k hk => by
      conv => rhs; rw [← List.map_id k]
      apply List.map_congr_left
      intro b hb
      simp [UInt8.toNat_ofNat', Nat.mod_eq_of_lt (hk b hb)]
    rwa [e2 l hl, e2 m hm] at this
theorem conv_str {w : World} {B n c : Nat} {A : Option Addr} {l : List Nat} (hn : l.length = n) (hl : ∀ b ∈ l, b < 256) (h : Reads w B 1 A n (bytes l)) :
    (convert 34 9 (.slice A n c)).run Try.prog w = .ok (.string (strOf l)) w := by
  subst hn
  rcases A with _ | ad
  · have h0 : l.length = 0 := by
      rcases Nat.eq_zero_or_pos l.length with h0 | h0
      · exact h0
      · obtain ⟨ad, e, _⟩ := h.2 h0; cases e
    have hn : l = [] := List.eq_nil_of_length_eq_zero h0
    subst hn
    exact Lib.run_convert_nil_bytes w 34 9 5 c Try.underlying34 Try.underlying5 Try.underlying9
  · have hc : ∀ j u, (bytes l)[j]? = some u → w.cell? (ad.add j) = some u := by
      intro j u hu
      rcases Nat.eq_zero_or_pos l.length with h0 | h0
      · have hn : l = [] := List.eq_nil_of_length_eq_zero h0
        subst hn
        simp at hu
      · obtain ⟨ad', e, _, hc⟩ := h.2 h0
        injection e with e
        subst e
        exact hc j u hu
    have := run_convert_bytes_back (P := Try.prog) w 34 9 5 ad c (l.map UInt8.ofNat) Try.underlying34 Try.underlying5 Try.underlying9 (fun j hj => by
      have hj' : j < l.length := by simpa using hj
      have hb := hl l[j] (List.getElem_mem hj')
      rw [hc j (.int .u8 (l[j] : Int)) (by simp [List.getElem?_eq_getElem hj'])]
      simp [UInt8.toNat_ofNat', Nat.mod_eq_of_lt hb])
    simpa [strOf] using this
end Go.Proofs.Ytjmhefkmpfkpbaa
