/- Field: each put's answer as bytes and an error; strings of bytes. -/
import Derived.Test.YtekeenldlkkljaaS
import Derived.Laws.IdiomStrings
import Derived.Lib.BufferRead
import Derived.Laws.Strings
namespace Go.Proofs.Ytekeenldlkkljaa
open Go.ChangeShapes Go.WideShapes Go.ChangeAt Go.RowKit
set_option linter.unusedSimpArgs false
set_option linter.unusedVariables false
/-- The string of bytes. -/
def strI (l : List Int) : ByteArray := ⟨(l.map fun b => UInt8.ofNat b.toNat).toArray⟩
theorem conv_str {w : World} {B n c : Nat} {A : Option Addr} {l : List Int} (hn : l.length = n) (hl : ∀ b ∈ l, 0 ≤ b ∧ b < 256) (h : Reads w B 1 A n (u8s l)) :
    (convert 22 9 (.slice A n c)).run Try.prog w = .ok (.string (strI l)) w := by
  subst hn
  rcases A with _ | ad
  · have h0 : l.length = 0 := by
      rcases Nat.eq_zero_or_pos l.length with h0 | h0
      · exact h0
      · obtain ⟨ad, e, _⟩ := h.2 h0; cases e
    have hn : l = [] := List.eq_nil_of_length_eq_zero h0
    subst hn
    exact Lib.run_convert_nil_bytes w 22 9 5 c Try.underlying22 Try.underlying5 Try.underlying9
  · have hc : ∀ j u, (u8s l)[j]? = some u → w.cell? (ad.add j) = some u := by
      intro j u hu
      rcases Nat.eq_zero_or_pos l.length with h0 | h0
      · have hn : l = [] := List.eq_nil_of_length_eq_zero h0
        subst hn
        simp at hu
      · obtain ⟨ad', e, _, hc⟩ := h.2 h0
        injection e with e
        subst e
        exact hc j u hu
    have := run_convert_bytes_back (P := Try.prog) w 22 9 5 ad c (l.map fun b => UInt8.ofNat b.toNat) Try.underlying22 Try.underlying5 Try.underlying9 (fun j hj => by
      have hj' : j < l.length := by simpa using hj
      have hb := hl l[j] (List.getElem_mem hj')
      rw [hc j (.int .u8 l[j]) (by simp [List.getElem?_eq_getElem hj'])]
      have e : l[j].toNat < 256 := by omega
      simp [UInt8.toNat_ofNat', Nat.mod_eq_of_lt e, Int.toNat_of_nonneg hb.1])
    simpa [strI] using this
theorem str_same (l : List Int) : ((strI l).toList == (strI l).toList) = true := by simp
def pnX (l : List Int) (x : Nat) (s : Int) : List Int := if 1 ≤ s ∧ s ≤ 8 ∧ x < 256 ^ s.toNat ∧ l.length + s.toNat ≤ 3900 then l ++ digs x s.toNat else []
def pnE (l : List Int) (x : Nat) (s : Int) : Int := if 1 ≤ s ∧ s ≤ 8 ∧ x < 256 ^ s.toNat then (if l.length + s.toNat ≤ 3900 then 0 else 4) else 2
def pdX (b : List Int) (neg : Bool) (l : List Int) (e : Int) : List Int := if mayD neg l e = true ∧ b.length + (4 + 4 * l.length) ≤ 3900 then b ++ flat (ptsD neg l e) else []
def pdE (b : List Int) (neg : Bool) (l : List Int) (e : Int) : Int := if mayD neg l e = true then (if b.length + (4 + 4 * l.length) ≤ 3900 then 0 else 4) else 8
/-- What a put answers: bytes of the call's own, and the error. -/
def UPost (w : World) (X : List Int) (e : Int) (en : Ending) (w' : World) : Prop :=
  ∃ A c, en = .returned (.tuple #[.slice A X.length c, .int .i64 e]) ∧ w'.ownsRow w.heap.size 5 1 (.slice A X.length c) X.length (u8s X) ∧ Below w.heap.size w w'
def VPost (w : World) (X : List Int) (e : Int) (en : Ending) (w' : World) : Prop :=
  ∃ A c, en = .returned (.tuple #[.slice A X.length c, .int .i64 e]) ∧ Reads w' w'.heap.size 1 A X.length (u8s X) ∧ Below w.heap.size w w'
theorem unil {w w' : World} (hb : Below w.heap.size w w') (e : Int) : UPost w [] e (.returned (.tuple #[.slice none 0 0, .int .i64 e])) w' := ⟨none, 0, rfl, World.ownsRow_nil _ _ _ _, hb⟩
theorem vnil {w w' : World} (hb : Below w.heap.size w w') (e : Int) : VPost w [] e (.returned (.tuple #[.slice none 0 0, .int .i64 e])) w' := ⟨none, 0, rfl, Reads.none_, hb⟩
theorem putn_u (A : Option Addr) (n c : Nat) (l : List Int) (hn : l.length = n) (hm : n ≤ 10000) (x : Nat) (hx : x < 18446744073709551616) (s : Int) (w : World) (hR : Reads w w.heap.size 1 A n (u8s l)) :
    Calls Try.prog 10 #[.slice A n c, .int .u64 x, .int .i64 s] w (UPost w (pnX l x s) (pnE l x s)) := by
  by_cases h : 1 ≤ s ∧ s ≤ 8 ∧ x < 256 ^ s.toNat
  · obtain ⟨k, rfl⟩ : ∃ k : Nat, s = (k : Int) := ⟨s.toNat, by omega⟩
    simp only [Int.toNat_natCast] at h
    refine (putn_any A n c l hn hm x k ⟨by omega, by omega, h.2.2⟩ w hR).mono ?_
    rintro en w' ⟨hb, ⟨h2, rfl⟩ | ⟨h2, A', c', rfl, ho⟩⟩
    · simp only [total, Nat.add_zero] at h2
      rw [show pnX l x k = [] from if_neg (by simp only [Int.toNat_natCast]; omega), show pnE l x k = 4 by unfold pnE; simp only [Int.toNat_natCast]; rw [if_pos h, if_neg (by omega)]]
      exact unil hb 4
    · simp only [total, Nat.add_zero, flat, List.append_nil] at h2 ho
      have e : pnX l x k = l ++ digs x k := by unfold pnX; simp only [Int.toNat_natCast]; rw [if_pos ⟨h.1, h.2.1, h.2.2, by omega⟩]
      have el : (pnX l x k).length = n + k := by rw [e, List.length_append, digs_len, hn]
      rw [show pnE l x k = 0 by unfold pnE; simp only [Int.toNat_natCast]; rw [if_pos h, if_pos (by omega)]]
      refine ⟨A', c', ?_, ?_, hb⟩
      · rw [el]; rfl
      · rw [el, e]; exact ho
  · refine (putn_no A n c x hx s (fun k hk hok => h ?_) w).mono ?_
    · subst hk
      unfold okN at hok
      simp only [Int.toNat_natCast]
      omega
    · rintro en w' ⟨rfl, rfl⟩
      rw [show pnX l x s = [] from if_neg (fun hh => h ⟨hh.1, hh.2.1, hh.2.2.1⟩), show pnE l x s = 2 from if_neg h]
      exact unil (Below.refl _ _) 2
theorem rputn_u (A : Option Addr) (n c : Nat) (l : List Int) (hn : l.length = n) (hm : n ≤ 10000) (x : Nat) (hx : x < 18446744073709551616) (s : Int) (w : World) (hR : Reads w w.heap.size 1 A n (u8s l)) :
    Calls Try.prog 11 #[.slice A n c, .int .u64 x, .int .i64 s] w (VPost w (pnX l x s) (pnE l x s)) := by
  by_cases h : 1 ≤ s ∧ s ≤ 8 ∧ x < 256 ^ s.toNat
  · obtain ⟨k, rfl⟩ : ∃ k : Nat, s = (k : Int) := ⟨s.toNat, by omega⟩
    simp only [Int.toNat_natCast] at h
    refine (rputn_ok A n c l hn hm x k (by omega) (by omega) h.2.2 w hR).mono ?_
    rintro en w' ⟨hb, ⟨h2, rfl⟩ | ⟨h2, A', c', rfl, hr⟩⟩
    · rw [show pnX l x k = [] from if_neg (by simp only [Int.toNat_natCast]; omega), show pnE l x k = 4 by unfold pnE; simp only [Int.toNat_natCast]; rw [if_pos h, if_neg (by omega)]]
      exact vnil hb 4
    · have e : pnX l x k = l ++ digs x k := by unfold pnX; simp only [Int.toNat_natCast]; rw [if_pos ⟨h.1, h.2.1, h.2.2, by omega⟩]
      have el : (pnX l x k).length = n + k := by rw [e, List.length_append, digs_len, hn]
      rw [show pnE l x k = 0 by unfold pnE; simp only [Int.toNat_natCast]; rw [if_pos h, if_pos (by omega)]]
      refine ⟨A', c', ?_, ?_, hb⟩
      · rw [el]
      · rw [el, e]; exact hr
  · have key : pnX l x s = [] ∧ pnE l x s = 2 := ⟨if_neg (fun hh => h ⟨hh.1, hh.2.1, hh.2.2.1⟩), if_neg h⟩
    rw [key.1, key.2]
    by_cases h1 : s < 1 ∨ 8 < s
    · refine (rputn_size A n c x s h1 w).mono ?_
      rintro en w' ⟨rfl, hb⟩
      exact vnil hb 2
    · obtain ⟨k, rfl⟩ : ∃ k : Nat, s = (k : Int) := ⟨s.toNat, by omega⟩
      simp only [Int.toNat_natCast] at h
      refine (rputn_wide A n c x hx k (by omega) (by omega) (by
        rcases Nat.lt_or_ge x (256 ^ k) with hh | hh
        · exact absurd ⟨by omega, by omega, hh⟩ h
        · exact hh) w).mono ?_
      rintro en w' ⟨rfl, hb⟩
      exact vnil hb 2
theorem putd_u (A : Option Addr) (n c : Nat) (b : List Int) (hn : b.length = n) (hm : n ≤ 10000) (neg : Bool) (L : Option Addr) (m lc : Nat) (l : List Int) (hl : l.length = m) (hl0 : ∀ x ∈ l, 0 ≤ x) (hl1 : ∀ x ∈ l, x < 4294967296) (e : Int) (w : World) (hR : Reads w w.heap.size 1 A n (u8s b)) (hL : Reads w w.heap.size 1 L m (u32s l)) :
    Calls Try.prog 12 #[.slice A n c, dy neg L m lc e] w (UPost w (pdX b neg l e) (pdE b neg l e)) := by
  by_cases h : mayD neg l e = true
  · refine (putd_any A n c b hn hm neg L m lc l hl hl0 hl1 e h w hR hL).mono ?_
    rintro en w' ⟨hb, ⟨h2, rfl⟩ | ⟨h2, A', c', rfl, ho⟩⟩
    · rw [total_pts] at h2
      rw [show pdX b neg l e = [] from if_neg (by omega), show pdE b neg l e = 4 by unfold pdE; rw [if_pos h, if_neg (by omega)]]
      exact unil hb 4
    · rw [total_pts] at h2 ho
      have e1 : pdX b neg l e = b ++ flat (ptsD neg l e) := if_pos ⟨h, by omega⟩
      have el : (pdX b neg l e).length = n + (4 + 4 * l.length) := by rw [e1, List.length_append, flat_len, total_pts, hn]
      rw [show pdE b neg l e = 0 by unfold pdE; rw [if_pos h, if_pos (by omega)]]
      refine ⟨A', c', ?_, ?_, hb⟩
      · rw [el, total_pts]
      · rw [el, e1]; exact ho
  · have h' : mayD neg l e = false := by simpa using h
    refine (putd_bad A n c neg L m lc l hl hl0 e h' w hL).mono ?_
    rintro en w' ⟨rfl, hb⟩
    rw [show pdX b neg l e = [] from if_neg (fun hh => h hh.1), show pdE b neg l e = 8 from if_neg h]
    exact unil hb 8
theorem rputd_u (A : Option Addr) (n c : Nat) (b : List Int) (hn : b.length = n) (hm : n ≤ 10000) (neg : Bool) (L : Option Addr) (m lc : Nat) (l : List Int) (hl : l.length = m) (hl0 : ∀ x ∈ l, 0 ≤ x) (hl1 : ∀ x ∈ l, x < 4294967296) (e : Int) (w : World) (hR : Reads w w.heap.size 1 A n (u8s b)) (hL : Reads w w.heap.size 1 L m (u32s l)) :
    Calls Try.prog 13 #[.slice A n c, dy neg L m lc e] w (VPost w (pdX b neg l e) (pdE b neg l e)) := by
  by_cases h : mayD neg l e = true
  · refine (rputd_any A n c b hn hm neg L m lc l hl hl0 hl1 e h w hR hL).mono ?_
    rintro en w' ⟨hb, ⟨h2, rfl⟩ | ⟨h2, A', c', rfl, hr⟩⟩
    · rw [show pdX b neg l e = [] from if_neg (by omega), show pdE b neg l e = 4 by unfold pdE; rw [if_pos h, if_neg (by omega)]]
      exact vnil hb 4
    · have e1 : pdX b neg l e = b ++ flat (ptsD neg l e) := if_pos ⟨h, by omega⟩
      have el : (pdX b neg l e).length = n + (4 + 4 * m) := by rw [e1, List.length_append, flat_len, total_pts, hn, hl]
      rw [show pdE b neg l e = 0 by unfold pdE; rw [if_pos h, if_pos (by omega)]]
      refine ⟨A', c', ?_, ?_, hb⟩
      · rw [el]
      · rw [el, e1]; exact hr
  · have h' : mayD neg l e = false := by simpa using h
    refine (rputd_bad A n c neg L m lc l hl hl0 e h' w hL).mono ?_
    rintro en w' ⟨rfl, hb⟩
    rw [show pdX b neg l e = [] from if_neg (fun hh => h hh.1), show pdE b neg l e = 8 from if_neg h]
    exact vnil hb 8
theorem flat_byte : ∀ ps, ∀ b ∈ flat ps, 0 ≤ b ∧ b < 256
  | [], b, h => by simp [flat] at h
  | p :: r, b, h => by
    rw [flat] at h
    rcases List.mem_append.mp h with h | h
    · exact digs_byte _ _ b h
    · exact flat_byte r b h
theorem pnX_byte {l : List Int} (hl : ∀ b ∈ l, 0 ≤ b ∧ b < 256) (x : Nat) (s : Int) : ∀ b ∈ pnX l x s, 0 ≤ b ∧ b < 256 := by
  intro b hb
  unfold pnX at hb
  split at hb
  · rcases List.mem_append.mp hb with h | h
    · exact hl b h
    · exact digs_byte _ _ b h
  · simp at hb
theorem pdX_byte {b : List Int} (hl : ∀ x ∈ b, 0 ≤ x ∧ x < 256) (neg : Bool) (l : List Int) (e : Int) : ∀ x ∈ pdX b neg l e, 0 ≤ x ∧ x < 256 := by
  intro x hb
  unfold pdX at hb
  split at hb
  · rcases List.mem_append.mp hb with h | h
    · exact hl x h
    · exact flat_byte _ x h
  · simp at hb
theorem pnX_len (l : List Int) (x : Nat) (s : Int) : (pnX l x s).length ≤ 3900 := by
  unfold pnX
  split
  · rename_i h; rw [List.length_append, digs_len]; exact h.2.2.2
  · simp
theorem pdX_len (b : List Int) (neg : Bool) (l : List Int) (e : Int) : (pdX b neg l e).length ≤ 3900 := by
  unfold pdX
  split
  · rename_i h; rw [List.length_append, flat_len, total_pts]; exact h.2
  · simp
theorem UPost.at_ {w w' : World} {X : List Int} {e : Int} {en : Ending} (h : UPost w X e en w') (n : Nat) (hn : X.length = n) :
    ∃ A c, en = .returned (.tuple #[.slice A n c, .int .i64 e]) ∧ w'.ownsRow w.heap.size 5 1 (.slice A n c) n (u8s X) ∧ Below w.heap.size w w' := by
  subst hn
  exact h
end Go.Proofs.Ytekeenldlkkljaa
