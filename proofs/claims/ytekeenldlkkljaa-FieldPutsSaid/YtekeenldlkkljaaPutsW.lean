/- Field: the walk of the law FieldPuts. -/
import Derived.Test.YtekeenldlkkljaaS
import Derived.Laws.IdiomStrings
import Derived.Lib.BufferRead
import Derived.Laws.Strings
namespace Go.Proofs.Ytekeenldlkkljaa.FieldPuts
open Go.ChangeShapes Go.WideShapes Go.ChangeAt Go.RowKit
set_option linter.unusedSimpArgs false
set_option linter.unusedVariables false
/-- The string of bytes. -/
def strI (l : List Int) : ByteArray := ⟨(l.map fun b => UInt8.ofNat b.toNat).toArray⟩
theorem conv_str {w : World} {B n c : Nat} {A : Option Addr} {l : List Int} (hn : l.length = n) (hl : ∀ b ∈ l, 0 ≤ b ∧ b < 256) (h : Reads w B 1 A n (u8s l)) :
    (convert 22 9 (.slice A n c)).run Try.prog w = .ok (.string (strI l)) w := by
  subst hn
  rcases A with _ | ad
  · have h0 : l.length = 0 := by
      rcases Nat.eq_zero_or_pos l.length with h0 | h0
      · exact h0
      · obtain ⟨ad, e, _⟩ := h.2 h0; cases e
    have hn : l = [] := List.eq_nil_of_length_eq_zero h0
    subst hn
    exact Lib.run_convert_nil_bytes w 22 9 5 c Try.underlying22 Try.underlying5 Try.underlying9
  · have hc : ∀ j u, (u8s l)[j]? = some u → w.cell? (ad.add j) = some u := by
      intro j u hu
      rcases Nat.eq_zero_or_pos l.length with h0 | h0
      · have hn : l = [] := List.eq_nil_of_length_eq_zero h0
        subst hn
        simp at hu
      · obtain ⟨ad', e, _, hc⟩ := h.2 h0
        injection e with e
        subst e
        exact hc j u hu
    have := run_convert_bytes_back (P := Try.prog) w 22 9 5 ad c (l.map fun b => UInt8.ofNat b.toNat) Try.underlying22 Try.underlying5 Try.underlying9 (fun j hj => by
      have hj' : j < l.length := by simpa using hj
      have hb := hl l[j] (List.getElem_mem hj')
      rw [hc j (.int .u8 l[j]) (by simp [List.getElem?_eq_getElem hj'])]
      have e : l[j].toNat < 256 := by omega
      simp [UInt8.toNat_ofNat', Nat.mod_eq_of_lt e, Int.toNat_of_nonneg hb.1])
    simpa [strI] using this
theorem str_same (l : List Int) : ((strI l).toList == (strI l).toList) = true := by simp
def pnX (l : List Int) (x : Nat) (s : Int) : List Int := if 1 ≤ s ∧ s ≤ 8 ∧ x < 256 ^ s.toNat ∧ l.length + s.toNat ≤ 3900 then l ++ digs x s.toNat else []
def pnE (l : List Int) (x : Nat) (s : Int) : Int := if 1 ≤ s ∧ s ≤ 8 ∧ x < 256 ^ s.toNat then (if l.length + s.toNat ≤ 3900 then 0 else 4) else 2
def pdX (b : List Int) (neg : Bool) (l : List Int) (e : Int) : List Int := if mayD neg l e = true ∧ b.length + (4 + 4 * l.length) ≤ 3900 then b ++ flat (ptsD neg l e) else []
def pdE (b : List Int) (neg : Bool) (l : List Int) (e : Int) : Int := if mayD neg l e = true then (if b.length + (4 + 4 * l.length) ≤ 3900 then 0 else 4) else 8
/-- What a put answers: bytes of the call's own, and the error. -/
def UPost (w : World) (X : List Int) (e : Int) (en : Ending) (w' : World) : Prop :=
  ∃ A c, en = .returned (.tuple #[.slice A X.length c, .int .i64 e]) ∧ w'.ownsRow w.heap.size 5 1 (.slice A X.length c) X.length (u8s X) ∧ Below w.heap.size w w'
def VPost (w : World) (X : List Int) (e : Int) (en : Ending) (w' : World) : Prop :=
  ∃ A c, en = .returned (.tuple #[.slice A X.length c, .int .i64 e]) ∧ Reads w' w'.heap.size 1 A X.length (u8s X) ∧ Below w.heap.size w w'
theorem unil {w w' : World} (hb : Below w.heap.size w w') (e : Int) : UPost w [] e (.returned (.tuple #[.slice none 0 0, .int .i64 e])) w' := ⟨none, 0, rfl, World.ownsRow_nil _ _ _ _, hb⟩
theorem vnil {w w' : World} (hb : Below w.heap.size w w') (e : Int) : VPost w [] e (.returned (.tuple #[.slice none 0 0, .int .i64 e])) w' := ⟨none, 0, rfl, Reads.none_, hb⟩
theorem putn_u (A : Option Addr) (n c : Nat) (l : List Int) (hn : l.length = n) (hm : n ≤ 10000) (x : Nat) (hx : x < 18446744073709551616) (s : Int) (w : World) (hR : Reads w w.heap.size 1 A n (u8s l)) :
    Calls Try.prog 10 #[.slice A n c, .int .u64 x, .int .i64 s] w (UPost w (pnX l x s) (pnE l x s)) := by
  by_cases h : 1 ≤ s ∧ s ≤ 8 ∧ x < 256 ^ s.toNat
  · obtain ⟨k, rfl⟩ : ∃ k : Nat, s = (k : Int) := ⟨s.toNat, by omega⟩
    simp only [Int.toNat_natCast] at h
    refine (putn_any A n c l hn hm x k ⟨by omega, by omega, h.2.2⟩ w hR).mono ?_
    rintro en w' ⟨hb, ⟨h2, rfl⟩ | ⟨h2, A', c', rfl, ho⟩⟩
    · simp only [total, Nat.add_zero] at h2
      rw [show pnX l x k = [] from if_neg (by simp only [Int.toNat_natCast]; omega), show pnE l x k = 4 by unfold pnE; simp only [Int.toNat_natCast]; rw [if_pos h, if_neg (by omega)]]
      exact unil hb 4
    · simp only [total, Nat.add_zero, flat, List.append_nil] at h2 ho
      have e : pnX l x k = l ++ digs x k := by unfold pnX; simp only [Int.toNat_natCast]; rw [if_pos ⟨h.1, h.2.1, h.2.2, by omega⟩]
      have el : (pnX l x k).length = n + k := by rw [e, List.length_append, digs_len, hn]
      rw [show pnE l x k = 0 by unfold pnE; simp only [Int.toNat_natCast]; rw [if_pos h, if_pos (by omega)]]
      refine ⟨A', c', ?_, ?_, hb⟩
      · rw [el]; rfl
      · rw [el, e]; exact ho
  · refine (putn_no A n c x hx s (fun k hk hok => h ?_) w).mono ?_
    · subst hk
      unfold okN at hok
      simp only [Int.toNat_natCast]
      omega
    · rintro en w' ⟨rfl, rfl⟩
      rw [show pnX l x s = [] from if_neg (fun hh => h ⟨hh.1, hh.2.1, hh.2.2.1⟩), show pnE l x s = 2 from if_neg h]
      exact unil (Below.refl _ _) 2
theorem rputn_u (A : Option Addr) (n c : Nat) (l : List Int) (hn : l.length = n) (hm : n ≤ 10000) (x : Nat) (hx : x < 18446744073709551616) (s : Int) (w : World) (hR : Reads w w.heap.size 1 A n (u8s l)) :
    Calls Try.prog 11 #[.slice A n c, .int .u64 x, .int .i64 s] w (VPost w (pnX l x s) (pnE l x s)) := by
  by_cases h : 1 ≤ s ∧ s ≤ 8 ∧ x < 256 ^ s.toNat
  · obtain ⟨k, rfl⟩ : ∃ k : Nat, s = (k : Int) := ⟨s.toNat, by omega⟩
    simp only [Int.toNat_natCast] at h
    refine (rputn_ok A n c l hn hm x k (by omega) (by omega) h.2.2 w hR).mono ?_
    rintro en w' ⟨hb, ⟨h2, rfl⟩ | ⟨h2, A', c', rfl, hr⟩⟩
    · rw [show pnX l x k = [] from if_neg (by simp only [Int.toNat_natCast]; omega), show pnE l x k = 4 by unfold pnE; simp only [Int.toNat_natCast]; rw [if_pos h, if_neg (by omega)]]
      exact vnil hb 4
    · have e : pnX l x k = l ++ digs x k := by unfold pnX; simp only [Int.toNat_natCast]; rw [if_pos ⟨h.1, h.2.1, h.2.2, by omega⟩]
      have el : (pnX l x k).length = n + k := by rw [e, List.length_append, digs_len, hn]
      rw [show pnE l x k = 0 by unfold pnE; simp only [Int.toNat_natCast]; rw [if_pos h, if_pos (by omega)]]
      refine ⟨A', c', ?_, ?_, hb⟩
      · rw [el]
      · rw [el, e]; exact hr
  · have key : pnX l x s = [] ∧ pnE l x s = 2 := ⟨if_neg (fun hh => h ⟨hh.1, hh.2.1, hh.2.2.1⟩), if_neg h⟩
    rw [key.1, key.2]
    by_cases h1 : s < 1 ∨ 8 < s
    · refine (rputn_size A n c x s h1 w).mono ?_
      rintro en w' ⟨rfl, hb⟩
      exact vnil hb 2
    · obtain ⟨k, rfl⟩ : ∃ k : Nat, s = (k : Int) := ⟨s.toNat, by omega⟩
      simp only [Int.toNat_natCast] at h
      refine (rputn_wide A n c x hx k (by omega) (by omega) (by
        rcases Nat.lt_or_ge x (256 ^ k) with hh | hh
        · exact absurd ⟨by omega, by omega, hh⟩ h
        · exact hh) w).mono ?_
      rintro en w' ⟨rfl, hb⟩
      exact vnil hb 2
theorem putd_u (A : Option Addr) (n c : Nat) (b : List Int) (hn : b.length = n) (hm : n ≤ 10000) (neg : Bool) (L : Option Addr) (m lc : Nat) (l : List Int) (hl : l.length = m) (hl0 : ∀ x ∈ l, 0 ≤ x) (hl1 : ∀ x ∈ l, x < 4294967296) (e : Int) (w : World) (hR : Reads w w.heap.size 1 A n (u8s b)) (hL : Reads w w.heap.size 1 L m (u32s l)) :
    Calls Try.prog 12 #[.slice A n c, dy neg L m lc e] w (UPost w (pdX b neg l e) (pdE b neg l e)) := by
  by_cases h : mayD neg l e = true
  · refine (putd_any A n c b hn hm neg L m lc l hl hl0 hl1 e h w hR hL).mono ?_
    rintro en w' ⟨hb, ⟨h2, rfl⟩ | ⟨h2, A', c', rfl, ho⟩⟩
    · rw [total_pts] at h2
      rw [show pdX b neg l e = [] from if_neg (by omega), show pdE b neg l e = 4 by unfold pdE; rw [if_pos h, if_neg (by omega)]]
      exact unil hb 4
    · rw [total_pts] at h2 ho
      have e1 : pdX b neg l e = b ++ flat (ptsD neg l e) := if_pos ⟨h, by omega⟩
      have el : (pdX b neg l e).length = n + (4 + 4 * l.length) := by rw [e1, List.length_append, flat_len, total_pts, hn]
      rw [show pdE b neg l e = 0 by unfold pdE; rw [if_pos h, if_pos (by omega)]]
      refine ⟨A', c', ?_, ?_, hb⟩
      · rw [el, total_pts]
      · rw [el, e1]; exact ho
  · have h' : mayD neg l e = false := by simpa using h
    refine (putd_bad A n c neg L m lc l hl hl0 e h' w hL).mono ?_
    rintro en w' ⟨rfl, hb⟩
    rw [show pdX b neg l e = [] from if_neg (fun hh => h hh.1), show pdE b neg l e = 8 from if_neg h]
    exact unil hb 8
theorem rputd_u (A : Option Addr) (n c : Nat) (b : List Int) (hn : b.length = n) (hm : n ≤ 10000) (neg : Bool) (L : Option Addr) (m lc : Nat) (l : List Int) (hl : l.length = m) (hl0 : ∀ x ∈ l, 0 ≤ x) (hl1 : ∀ x ∈ l, x < 4294967296) (e : Int) (w : World) (hR : Reads w w.heap.size 1 A n (u8s b)) (hL : Reads w w.heap.size 1 L m (u32s l)) :
    Calls Try.prog 13 #[.slice A n c, dy neg L m lc e] w (VPost w (pdX b neg l e) (pdE b neg l e)) := by
  by_cases h : mayD neg l e = true
  · refine (rputd_any A n c b hn hm neg L m lc l hl hl0 hl1 e h w hR hL).mono ?_
    rintro en w' ⟨hb, ⟨h2, rfl⟩ | ⟨h2, A', c', rfl, hr⟩⟩
    · rw [show pdX b neg l e = [] from if_neg (by omega), show pdE b neg l e = 4 by unfold pdE; rw [if_pos h, if_neg (by omega)]]
      exact vnil hb 4
    · have e1 : pdX b neg l e = b ++ flat (ptsD neg l e) := if_pos ⟨h, by omega⟩
      have el : (pdX b neg l e).length = n + (4 + 4 * m) := by rw [e1, List.length_append, flat_len, total_pts, hn, hl]
      rw [show pdE b neg l e = 0 by unfold pdE; rw [if_pos h, if_pos (by omega)]]
      refine ⟨A', c', ?_, ?_, hb⟩
      · rw [el]
      · rw [el, e1]; exact hr
  · have h' : mayD neg l e = false := by simpa using h
    refine (rputd_bad A n c neg L m lc l hl hl0 e h' w hL).mono ?_
    rintro en w' ⟨rfl, hb⟩
    rw [show pdX b neg l e = [] from if_neg (fun hh => h hh.1), show pdE b neg l e = 8 from if_neg h]
    exact vnil hb 8
theorem flat_byte : ∀ ps, ∀ b ∈ flat ps, 0 ≤ b ∧ b < 256
  | [], b, h => by simp [flat] at h
  | p :: r, b, h => by
    rw [flat] at h
    rcases List.mem_append.mp h with h | h
    · exact digs_byte _ _ b h
    · exact flat_byte r b h
theorem pnX_byte {l : List Int} (hl : ∀ b ∈ l, 0 ≤ b ∧ b < 256) (x : Nat) (s : Int) : ∀ b ∈ pnX l x s, 0 ≤ b ∧ b < 256 := by
  intro b hb
  unfold pnX at hb
  split at hb
  · rcases List.mem_append.mp hb with h | h
    · exact hl b h
    · exact digs_byte _ _ b h
  · simp at hb
theorem pdX_byte {b : List Int} (hl : ∀ x ∈ b, 0 ≤ x ∧ x < 256) (neg : Bool) (l : List Int) (e : Int) : ∀ x ∈ pdX b neg l e, 0 ≤ x ∧ x < 256 := by
  intro x hb
  unfold pdX at hb
  split at hb
  · rcases List.mem_append.mp hb with h | h
    · exact hl x h
    · exact flat_byte _ x h
  · simp at hb
theorem pnX_len (l : List Int) (x : Nat) (s : Int) : (pnX l x s).length ≤ 3900 := by
  unfold pnX
  split
  · rename_i h; rw [List.length_append, digs_len]; exact h.2.2.2
  · simp
theorem pdX_len (b : List Int) (neg : Bool) (l : List Int) (e : Int) : (pdX b neg l e).length ≤ 3900 := by
  unfold pdX
  split
  · rename_i h; rw [List.length_append, flat_len, total_pts]; exact h.2
  · simp
theorem out_long (A : Option Addr) (n c : Nat) (x : Nat) (s : Int) (neg : Bool) (L : Option Addr) (m lc : Nat) (e : Int) (hd : decide ((5000 : Int) < n) = true) (w : World) :
    Calls Try.prog 3 #[.slice A n c, .int .u64 x, .int .i64 s, dy neg L m lc e] w fun en w' => en = .returned (.bool true) ∧ Below w.heap.size w w' := by
  go_enter Try.func3, Try.ntmps3
  go_wp2
  go_ret
  exact ⟨rfl, (Below.refl _ w).alloc (Nat.le_refl _) _⟩
theorem out_great (A : Option Addr) (n c : Nat) (x : Nat) (s : Int) (neg : Bool) (L : Option Addr) (m lc : Nat) (e : Int) (hd : decide ((5000 : Int) < n) = false) (hg : greatB m e = true) (w : World) :
    Calls Try.prog 3 #[.slice A n c, .int .u64 x, .int .i64 s, dy neg L m lc e] w fun en w' => en = .returned (.bool true) ∧ Below w.heap.size w w' := by
  have hB := (Below.refl w.heap.size w).alloc (Nat.le_refl _) (.cells #[.bool neg, .slice L m lc, .int .i64 e] 26)
  have hgr := fun w => great_any neg L m lc e w
  rw [hg] at hgr
  clear hg
  go_enter Try.func3, Try.ntmps3
  go_wp2_with fail
  refine (hgr _).mono ?_
  rintro en w1 ⟨rfl, hb1⟩
  have hB1 := hB.trans (hb1.mono hB.size)
  clear hgr
  go_wp2
  go_ret
  exact ⟨rfl, hB1⟩
theorem own_other {w : World} {base size n g : Nat} {e t : TypeId} {v : Value} {xs : List Value} {cs : Array Value} (h : w.ownsRow base e size v n xs) (hB : Blk w g t cs) (ht : e ≠ t) (o : Nat) (u : Value) : (w.setCell ⟨g, o, none⟩ u).ownsRow base e size v n xs :=
  ⟨h.1, h.2.imp id fun ⟨b, c, cur, e1, h1, h2, r⟩ => ⟨b, c, cur, e1, h1, Blk.far (show Blk w b e cur from h2) (Blk.ne_ (show Blk w b e cur from h2) hB ht) u, r⟩⟩
theorem u8_set (l : List Int) (i : Nat) (b : Int) : (u8s l).set i (.int .u8 b) = u8s (l.set i b) := by simp [u8s, List.map_set]
theorem u8_at {l : List Int} {i : Nat} (h : i < l.length) : (u8s l)[i]? = some (.int .u8 (l.getD i 0)) := by simp [List.getElem?_eq_getElem h]
theorem row_apart {w : World} {base g n : Nat} {v : Value} {xs : List Value} (h : w.ownsRow base 5 1 v n xs) (hg : g < base) : v.ownBlock = none ∨ v.ownBlock ≠ some g := by
  rcases h.2 with ⟨hv, _⟩ | ⟨g', cap, cur, hv, hb, _⟩
  · left; rw [hv]; rfl
  · right
    rw [hv]
    simp [Value.ownBlock]
    omega
set_option maxRecDepth 100000 in
set_option maxHeartbeats 16000000 in
theorem main (A : Option Addr) (n c : Nat) (b : List Int) (hn : b.length = n) (hb : ∀ x ∈ b, 0 ≤ x ∧ x < 256) (x : Nat) (hx : x < 18446744073709551616) (s : Int) (neg : Bool) (L : Option Addr) (m lc : Nat) (l : List Int) (hl : l.length = m) (hl0 : ∀ x ∈ l, 0 ≤ x) (hl1 : ∀ x ∈ l, x < 4294967296) (e : Int) (hm5 : n ≤ 5000) (hd : decide ((5000 : Int) < n) = false) (hm42 : m ≤ 42) (hg : greatB m e = false) (w : World) (hR : Reads w w.heap.size 1 A n (u8s b)) (hL : Reads w w.heap.size 1 L m (u32s l)) :
    Calls Try.prog 3 #[.slice A n c, .int .u64 x, .int .i64 s, dy neg L m lc e] w fun en w' => en = .returned (.bool true) ∧ Below w.heap.size w w' := by
  obtain ⟨i0, hi0, hz0, hz1, hz2⟩ := info_parts info5
  have hB := (Below.refl w.heap.size w).alloc (Nat.le_refl _) (.cells #[.bool neg, .slice L m lc, .int .i64 e] 26)
  have hbx := Blk.new w 26 #[.bool neg, .slice L m lc, .int .i64 e]
  have hgr := fun w => great_any neg L m lc e w
  rw [hg] at hgr
  clear hg
  go_enter Try.func3, Try.ntmps3
  go_wp2_with fail
  refine (hgr _).mono ?_
  rintro en w1 ⟨rfl, hb1⟩
  have hB1 := hB.trans (hb1.mono hB.size)
  have hk1 := hbx.below hb1 hbx.lt
  clear hgr hbx hb1 hB
  have k0 := hk1.cell 0
  have k1 := hk1.cell 1
  have k2 := hk1.cell 2
  have hR1 := hR.below hB1
  have hL1 := hL.below hB1
  have hL0 := Lib.hid hl0
  have hLx := Lib.hid hl1
  have HN := Lib.hid hn
  have HL := Lib.hid hl
  have HBy := Lib.hid hb
  have u1 := u8s_one b
  have SS : ∀ w', Below w1.heap.size w1 w' → Below w1.heap.size w1 w' ∧ w'.cell? ⟨w.heap.size, 0, none⟩ = some (.bool neg) ∧ w'.cell? ⟨w.heap.size, 1, none⟩ = some (.slice L m lc) ∧ w'.cell? ⟨w.heap.size, 2, none⟩ = some (.int .i64 e) := fun w' h => ⟨h, (hk1.below h hk1.lt).cell 0, (hk1.below h hk1.lt).cell 1, (hk1.below h hk1.lt).cell 2⟩
  have tw := fun w h => twin_any neg L m lc l (by omega) e w h
  clear hn hl hb hl0 hl1
  go_wp2_with fail
  refine wp_region_held_drew (S := (fun w' => Below w1.heap.size w1 w' ∧ w'.cell? ⟨w.heap.size, 0, none⟩ = some (.bool neg) ∧ w'.cell? ⟨w.heap.size, 1, none⟩ = some (.slice L m lc) ∧ w'.cell? ⟨w.heap.size, 2, none⟩ = some (.int .i64 e))) (by kernel_rfl) (SS _ (Below.drew (Below.refl _ _))) (fun hHeld => ?_)
  refine wpAnyH_take (i := 1) (v := ?_) rfl (by kernel_rfl) (by kernel_rfl) (by kernel_rfl) (fun _ _ _ h => h) (Or.inl ⟨by rfl, ?_⟩) (by assumption) ?_
  rotate_left
  · (intro w hSw; (try dsimp only at hSw); go_simp; (try with_reducible rfl))
  (try simp only [Act.put, List.setIfInBounds_toArray, List.set_cons_zero, List.set_cons_succ])
  refine wpAnyH_take (i := 3) (v := ?_) rfl (by kernel_rfl) (by kernel_rfl) (by kernel_rfl) (fun _ _ _ h => h) (Or.inl ⟨by rfl, ?_⟩) (by assumption) ?_
  rotate_left
  · (intro w hSw; (try dsimp only at hSw); go_simp; (try with_reducible rfl))
  (try simp only [Act.put, List.setIfInBounds_toArray, List.set_cons_zero, List.set_cons_succ])
  have hB_V0 : Below w1.heap.size w1 w1.drew := Below.drew (Below.refl _ _)
  obtain ⟨V0, hE⟩ : ∃ W, W = w1.drew := ⟨_, rfl⟩
  rw [← hE] at hB_V0 ⊢
  replace hE := Lib.hid hE
  clear hE
  refine wpAnyH_ready (rs := [0, 5]) (by kernel_rfl) (by simp) ?_
  refine AllReadyH.cons rfl (fun K hK => ?_) (AllReadyH.cons rfl (fun K hK => ?_) AllReadyH.nil)
  · go_simp
    have hE0 := Blk.new V0 5 #[]
    have hB_V1 := hB_V0.alloc hB_V0.size (.cells #[] 5)
    have hge0 := hB_V0.size
    generalize hg0 : V0.heap.size = g0 at hE0 hge0 ⊢
    clear hg0
    obtain ⟨V1, hE⟩ : ∃ W, W = V0.alloc (.cells #[] 5) := ⟨_, rfl⟩
    rw [← hE] at hE0 hB_V1 ⊢
    replace hE := Lib.hid hE
    clear hE
    refine hK.out _ _ (SS _ hB_V1) (fun hHeld => ?_)
    clear hK K
    (try simp only [Act.put, List.setIfInBounds_toArray, List.set_cons_zero, List.set_cons_succ])
    refine wpAnyH_ready (rs := [2, 5]) (by kernel_rfl) (by simp) ?_
    refine AllReadyH.cons rfl (fun K hK => ?_) (AllReadyH.cons rfl (fun K hK => ?_) AllReadyH.nil)
    · have hown0 := own_blk (cs := []) w1.heap.size 1 0 hE0 hge0 rfl (by unfold maxLen; omega)
      refine step_append_any _ rfl (.tmp 29) (.tmp 30) _ rfl w1.heap.size 5 i0 _ 1 1 Try.underlying22 hi0 hz0 hz1 hz2 rfl (by omega) (.slice (some ⟨g0, 0, none⟩) 0 0) 0 [] rfl hown0 w.heap.size A n c (u8s b) rfl (hR.below (hB1.trans (hB_V1.mono hB1.size))) u1 (by unfold maxLen; omega) (by omega) hB_V1.size ?_
      intro vo V2 hA0 hgr _
      simp only [Nat.zero_add, List.nil_append] at hA0
      obtain ⟨Ao, co, rfl, _, _⟩ := own_slice hA0
      have hB_V2 := hB_V1.grown hgr hB_V1.size (by intro q hq; simp [Value.ownBlock] at hq; omega)
      clear hown0 hgr hE0
      refine hK.out _ _ (SS _ hB_V2) (fun hHeld => ?_)
      clear hK K
      (try simp only [Act.put, List.setIfInBounds_toArray, List.set_cons_zero, List.set_cons_succ])
      refine wpAnyH_ready (rs := [4, 5]) (by kernel_rfl) (by simp) ?_
      refine AllReadyH.cons rfl (fun K hK => ?_) (AllReadyH.cons rfl (fun K hK => ?_) AllReadyH.nil)
      · go_simp
        refine (tw _ ((hL.below (hB1.trans (hB_V2.mono hB1.size))).more (hB1.trans (hB_V2.mono hB1.size)).size)).mono ?_
        rintro en V3 ⟨At, ct, rfl, hW0, hbw⟩
        have hB_V3 := hB_V2.trans (hbw.mono hB_V2.size)
        replace hA0 := own_below hA0 hbw
        clear hbw
        go_wp2_with fail
        refine hK.out _ _ (SS _ hB_V3) (fun hHeld => ?_)
        clear hK K
        (try simp only [Act.put, List.setIfInBounds_toArray, List.set_cons_zero, List.set_cons_succ])
        refine wpAnyH_ready (rs := [5]) (by kernel_rfl) (by simp) ?_
        refine AllReadyH.cons rfl (fun K hK => ?_) AllReadyH.nil
        go_simp
        have hTz := Blk.new V3 26 #[.bool false, .slice none 0 0, .int .i64 0]
        have hB_V4 := hB_V3.alloc hB_V3.size (.cells #[.bool false, .slice none 0 0, .int .i64 0] 26)
        have hgt0 := hB_V3.size
        replace hA0 := hA0.alloc (.cells #[.bool false, .slice none 0 0, .int .i64 0] 26)
        replace hW0 := hW0.alloc (.cells #[.bool false, .slice none 0 0, .int .i64 0] 26)
        generalize hgt : V3.heap.size = gt at hTz hgt0 ⊢
        clear hgt
        obtain ⟨V4, hE⟩ : ∃ W, W = V3.alloc (.cells #[.bool false, .slice none 0 0, .int .i64 0] 26) := ⟨_, rfl⟩
        rw [← hE] at hTz hB_V4 hA0 hW0 ⊢
        replace hE := Lib.hid hE
        clear hE
        refine hK.out _ _ (SS _ hB_V4) (fun hHeld => ?_)
        clear hK K
        (try simp only [Act.put, List.setIfInBounds_toArray, List.set_cons_zero, List.set_cons_succ])
        refine wpAnyH_ready (rs := [6]) (by kernel_rfl) (by simp) ?_
        refine AllReadyH.cons rfl (fun K hK => ?_) AllReadyH.nil
        go_simp
        refine hK.out _ _ (SS _ hB_V4) (fun hHeld => ?_)
        clear hK K
        (try simp only [Act.put, List.setIfInBounds_toArray, List.set_cons_zero, List.set_cons_succ])
        refine wpAnyH_ready (rs := [7]) (by kernel_rfl) (by simp) ?_
        refine AllReadyH.cons rfl (fun K hK => ?_) AllReadyH.nil
        have t0 := hTz.cell 0
        have t1 := hTz.cell 1
        have t2 := hTz.cell 2
        have r0 := hTz.frozen 0
        have r1 := hTz.frozen 1
        have r2 := hTz.frozen 2
        go_simp
        have F0 := own_other hA0 hTz (by decide) 0 (.bool neg)
        have G0 := own_other hW0 hTz (by decide) 0 (.bool neg)
        have T0 := hTz.set_ 0 (.bool neg)
        have F1 := own_other F0 T0 (by decide) 1 (.slice At m ct)
        have G1 := own_other G0 T0 (by decide) 1 (.slice At m ct)
        have T1 := T0.set_ 1 (.slice At m ct)
        have hO2 := own_other F1 T1 (by decide) 2 (.int .i64 e)
        have hT2 := own_other G1 T1 (by decide) 2 (.int .i64 e)
        have hTb := T1.set_ 2 (.int .i64 e)
        have hB2 := ((hB_V4.setCell (p := ⟨gt, 0, none⟩) hgt0 (.bool neg)).setCell (p := ⟨gt, 1, none⟩) hgt0 (.slice At m ct)).setCell (p := ⟨gt, 2, none⟩) hgt0 (.int .i64 e)
        obtain ⟨w2, hE⟩ : ∃ W, W = ((V4.setCell ⟨gt, 0, none⟩ (.bool neg)).setCell ⟨gt, 1, none⟩ (.slice At m ct)).setCell ⟨gt, 2, none⟩ (.int .i64 e) := ⟨_, rfl⟩
        rw [← hE] at hO2 hT2 hTb hB2 ⊢
        replace hE := Lib.hid hE
        clear hE
        refine hK.out _ _ (SS _ hB2) (fun hHeld => ?_)
        clear hK K
        (try simp only [Act.put, List.setIfInBounds_toArray, List.set_cons_zero, List.set_cons_succ])
        refine wpAnyH_done (by kernel_rfl) ?_ _
        clear hTz hA0 hW0 F0 G0 T0 F1 G1 T1 t0 t1 t2 r0 r1 r2
        try clear hge0
        replace hTb : Blk w2 gt 26 #[.bool neg, .slice At m ct, .int .i64 e] := by simpa using hTb
        have hXb := hk1.below hB2 hk1.lt
        have hW2 := hB1.trans (hB2.mono hB1.size)
        replace hO2 := Reads.of_own hO2
        replace hT2 := Reads.of_own hT2
        clear hHeld SS tw hR1 hL1 k0 k1 k2 u1 hk1 hB2 hi0 hz0 hz1 hz2
        go_wp2_with fail
        refine (putn_u Ao n co b HN.out (by omega) x hx s _ hO2).mono ?_
        rintro en w3 ⟨Ax, cx, rfl, hx3, hb3⟩
        have hXb0 := pnX_byte HBy.out x s
        have hXm := pnX_len b x s
        obtain ⟨X, hX⟩ : ∃ X, pnX b x s = X := ⟨_, rfl⟩
        obtain ⟨e1, he1⟩ : ∃ e1, pnE b x s = e1 := ⟨_, rfl⟩
        rw [hX] at hXb0 hXm hx3 ⊢
        rw [he1]
        obtain ⟨nx, hXl⟩ : ∃ nx, X.length = nx := ⟨_, rfl⟩
        rw [hXl] at hx3 hXm ⊢
        have hB3 := hW2.trans (hb3.mono hW2.size)
        go_wp2_with fail
        refine (rputn_u A n c b HN.out (by omega) x hx s _ ((hR.below hB3).more hB3.size)).mono ?_
        rw [hX, he1]
        replace hX := Lib.hid hX
        replace he1 := Lib.hid he1
        rintro en w4 ⟨Ay, cy, rfl, hy4, hb4⟩
        rw [hXl] at hy4 ⊢
        replace hXl := Lib.hid hXl
        have hB4 := hB3.trans (hb4.mono hB3.size)
        have hB24 := hb3.trans (hb4.mono hb3.size)
        have hx4 := own_below hx3 hb4
        have hs24 := hB24.size
        have hgx : ∀ g, Ax = some ⟨g, 0, none⟩ → 0 < nx → g < w4.heap.size := fun g he h0 => by
          obtain ⟨g', cap', hAe, _, hgl⟩ := hx4.form h0
          injection hAe with hA1 _ hA2
          rw [he] at hA1
          injection hA1 with hA1
          injection hA1 with hA1
          omega
        have t4 := hTb.below hB24 hTb.lt
        have a0 := t4.cell 0
        have a1 := t4.cell 1
        have a2 := t4.cell 2
        go_wp2_with fail
        refine (putd_u Ao n co b HN.out (by omega) neg At m ct l HL.out hL0.out hLx.out e _ ((hO2.below hB24).more hB24.size) ((hT2.below hB24).more hB24.size)).mono ?_
        rintro en w5 ⟨Ap, cp, rfl, hp5, hb5⟩
        clear a0 a1 a2 t4
        have hPb0 := pdX_byte HBy.out neg l e
        have hPm := pdX_len b neg l e
        obtain ⟨P, hP⟩ : ∃ P, pdX b neg l e = P := ⟨_, rfl⟩
        obtain ⟨e2, he2⟩ : ∃ e2, pdE b neg l e = e2 := ⟨_, rfl⟩
        rw [hP] at hPb0 hPm hp5 ⊢
        rw [he2]
        obtain ⟨np, hPl⟩ : ∃ np, P.length = np := ⟨_, rfl⟩
        rw [hPl] at hp5 hPm ⊢
        have hB5 := hB4.trans (hb5.mono hB4.size)
        have hB25 := hB24.trans (hb5.mono hB24.size)
        have t5 := hXb.below hB25 hXb.lt
        have a0 := t5.cell 0
        have a1 := t5.cell 1
        have a2 := t5.cell 2
        go_wp2_with fail
        refine (rputd_u A n c b HN.out (by omega) neg L m lc l HL.out hL0.out hLx.out e _ ((hR.below hB5).more hB5.size) ((hL.below hB5).more hB5.size)).mono ?_
        rw [hP, he2]
        replace hP := Lib.hid hP
        replace he2 := Lib.hid he2
        rintro en w6 ⟨Aq, cq, rfl, hq6, hb6⟩
        rw [hPl] at hq6 ⊢
        have hb56 := hb5.trans (hb6.mono hb5.size)
        have hB26 := hB25.trans (hb6.mono hB25.size)
        have hx6 := own_below (own_below hx4 hb5) hb6
        have hp6 := own_below hp5 hb6
        have hXl' := hXl.out
        have kx : (convert 22 9 (.slice Ax nx cx)).run Try.prog w6 = .ok (.string (strI X)) w6 := conv_str hXl' hXb0 (Reads.of_own hx6)
        have ky : (convert 22 9 (.slice Ay nx cy)).run Try.prog w6 = .ok (.string (strI X)) w6 := conv_str hXl' hXb0 ((hy4.below hb5).below (hb6.mono hb5.size))
        have kp : (convert 22 9 (.slice Ap np cp)).run Try.prog w6 = .ok (.string (strI P)) w6 := conv_str hPl hPb0 (Reads.of_own hp6)
        have kq : (convert 22 9 (.slice Aq np cq)).run Try.prog w6 = .ok (.string (strI P)) w6 := conv_str hPl hPb0 hq6
        have sx := str_same X
        have sp := str_same P
        have he1' : (e1 == e1) = true := by simp
        have he2' : (e2 == e2) = true := by simp
        clear hb3 hb4 hb5 hb6 hb56 hq6 hy4 hx3 hx4 hp5 hB3 hB4 hB5 hB24 hB25 a0 a1 a2 t5
        go_wp2
        go_loopw [20] (fun i wr => ∃ (k : Nat) (Z : List Int), k ≤ nx ∧ i = .int .i64 k ∧ Z.length = nx ∧ (∀ b ∈ Z, 0 ≤ b ∧ b < 256) ∧ wr.ownsRow w2.heap.size 5 1 (.slice Ax nx cx) nx (u8s Z) ∧ wr.ownsRow w4.heap.size 5 1 (.slice Ap np cp) np (u8s P) ∧ Below w2.heap.size w2 wr) (fun i _ => nx - (intOf i).toNat)
        case atStart => exact ⟨0, X, by omega, rfl, hXl', hXb0, hx6, hp6, hB26⟩
        case round =>
          obtain ⟨k, Z, hk, rfl, hZl, hZb, hrow, hrp, hBr⟩ := hrel
          clear hx6 hp6 hB26
          by_cases hlt : k < nx
          · obtain ⟨g, cap', hAe, hgb, hgl⟩ := hrow.form (by omega)
            injection hAe with hA1 _ hA2
            subst hA1
            obtain ⟨z, hz⟩ : ∃ z, z = Z.getD k 0 := ⟨_, rfl⟩
            have hzb : 0 ≤ z ∧ z < 256 := by rw [hz, List.getD_eq_getElem?_getD, List.getElem?_eq_getElem (by omega)]; exact hZb _ (List.getElem_mem _)
            have ck : wr.cell? ⟨g, k, none⟩ = some (.int .u8 z) := (hrow.cellAt k (by omega)).trans (by rw [hz]; exact u8_at (by omega))
            have fk := hrow.frozenAt
            have j1 : (0 : Int) ≤ k := by omega
            have j2 : (k : Int) < nx := by omega
            have hst := (hrow.stored k (.int .u8 ((z + 1) % 256))).1
            rw [u8_set] at hst
            have hgg := (hrow.stored k (.int .u8 ((z + 1) % 256))).2
            have hZl2 : (Z.set k ((z + 1) % 256)).length = nx := by rw [List.length_set]; exact hZl
            have hZb2 : ∀ b ∈ Z.set k ((z + 1) % 256), 0 ≤ b ∧ b < 256 := fun y hy => by
              rcases List.mem_or_eq_of_mem_set hy with h | h
              · exact hZb y h
              · rw [h]; omega
            obtain ⟨z1, z2⟩ := hzb
            clear hz
            go_wp2
            go_roundw
            case rel => exact ⟨k + 1, Z.set k ((z + 1) % 256), by omega, by go_num, hZl2, hZb2, hst, hrp.kept hgg (row_apart hrp (hgx g rfl (by omega))), hBr.setCell (p := ⟨g, k, none⟩) (hgb) _⟩
            case measure => simp [intOf]; omega
          · obtain rfl : k = nx := by omega
            have hBr' := hBr
            have hrow' := hrow
            have hr6 := hZl
            clear hrow hZl hZb hBr
            go_wp2
            go_loopw [21] (fun i wr => ∃ (k : Nat) (Z : List Int), k ≤ np ∧ i = .int .i64 k ∧ Z.length = np ∧ (∀ b ∈ Z, 0 ≤ b ∧ b < 256) ∧ wr.ownsRow w4.heap.size 5 1 (.slice Ap np cp) np (u8s Z) ∧ Below w2.heap.size w2 wr) (fun i _ => np - (intOf i).toNat)
            case atStart => exact ⟨0, P, by omega, rfl, hPl, hPb0, hrp, hBr'⟩
            case round =>
              obtain ⟨k, Z, hk, rfl, hZl, hZb, hrow, hBr⟩ := hrel
              clear hrp hPl hPb0 hrow' hr6
              by_cases hlt : k < np
              · obtain ⟨g, cap', hAe, hgb, hgl⟩ := hrow.form (by omega)
                injection hAe with hA1 _ hA2
                subst hA1
                obtain ⟨z, hz⟩ : ∃ z, z = Z.getD k 0 := ⟨_, rfl⟩
                have hzb : 0 ≤ z ∧ z < 256 := by rw [hz, List.getD_eq_getElem?_getD, List.getElem?_eq_getElem (by omega)]; exact hZb _ (List.getElem_mem _)
                have ck : wr.cell? ⟨g, k, none⟩ = some (.int .u8 z) := (hrow.cellAt k (by omega)).trans (by rw [hz]; exact u8_at (by omega))
                have fk := hrow.frozenAt
                have j1 : (0 : Int) ≤ k := by omega
                have j2 : (k : Int) < np := by omega
                have hst := (hrow.stored k (.int .u8 ((z + 1) % 256))).1
                rw [u8_set] at hst
                have hgg := (hrow.stored k (.int .u8 ((z + 1) % 256))).2
                have hZl2 : (Z.set k ((z + 1) % 256)).length = np := by rw [List.length_set]; exact hZl
                have hZb2 : ∀ b ∈ Z.set k ((z + 1) % 256), 0 ≤ b ∧ b < 256 := fun y hy => by
                  rcases List.mem_or_eq_of_mem_set hy with h | h
                  · exact hZb y h
                  · rw [h]; omega
                obtain ⟨z1, z2⟩ := hzb
                clear hz
                go_wp2
                go_roundw
                case rel => exact ⟨k + 1, Z.set k ((z + 1) % 256), by omega, by go_num, hZl2, hZb2, hst, hBr.setCell (p := ⟨g, k, none⟩) (Nat.le_trans hs24 hgb) _⟩
                case measure => simp [intOf]; omega
              · obtain rfl : k = np := by omega
                have ko : (convert 22 9 (.slice Ao n co)).run Try.prog wr = .ok (.string (strI b)) wr := conv_str HN.out HBy.out (hO2.below hBr)
                have kb : (convert 22 9 (.slice A n c)).run Try.prog wr = .ok (.string (strI b)) wr := conv_str HN.out HBy.out (hR.below (hW2.trans (hBr.mono hW2.size)))
                have ks := str_same b
                have hfin := hW2.trans (hBr.mono hW2.size)
                have s1 := hTb.below hBr hTb.lt
                have s2 := hXb.below hBr hXb.lt
                have a0 := s1.cell 0
                have a1 := s1.cell 1
                have a2 := s1.cell 2
                have c0 := s2.cell 0
                have c1 := s2.cell 1
                have c2 := s2.cell 2
                have hds := dsame_yes neg e At L m ct lc l HL.out (by omega) wr ((hT2.below hBr).more hBr.size) ((hL.below hfin).more hfin.size)
                clear hrow hBr hR hO2 hT2 hL hTb hXb s1 s2 hZl hZb
                go_wp2_with fail
                refine hds.mono ?_
                rintro en w9 ⟨rfl, hb9⟩
                clear hds
                go_wp2
                go_ret
                exact ⟨rfl, hfin.trans (hb9.mono hfin.size)⟩
      · go_simp
        have hTz := Blk.new V2 26 #[.bool false, .slice none 0 0, .int .i64 0]
        have hB_V3 := hB_V2.alloc hB_V2.size (.cells #[.bool false, .slice none 0 0, .int .i64 0] 26)
        have hgt0 := hB_V2.size
        replace hA0 := hA0.alloc (.cells #[.bool false, .slice none 0 0, .int .i64 0] 26)
        generalize hgt : V2.heap.size = gt at hTz hgt0 ⊢
        clear hgt
        obtain ⟨V3, hE⟩ : ∃ W, W = V2.alloc (.cells #[.bool false, .slice none 0 0, .int .i64 0] 26) := ⟨_, rfl⟩
        rw [← hE] at hTz hB_V3 hA0 ⊢
        replace hE := Lib.hid hE
        clear hE
        refine hK.out _ _ (SS _ hB_V3) (fun hHeld => ?_)
        clear hK K
        (try simp only [Act.put, List.setIfInBounds_toArray, List.set_cons_zero, List.set_cons_succ])
        refine wpAnyH_ready (rs := [4]) (by kernel_rfl) (by simp) ?_
        refine AllReadyH.cons rfl (fun K hK => ?_) AllReadyH.nil
        go_simp
        refine (tw _ ((hL.below (hB1.trans (hB_V3.mono hB1.size))).more (hB1.trans (hB_V3.mono hB1.size)).size)).mono ?_
        rintro en V4 ⟨At, ct, rfl, hW0, hbw⟩
        have hB_V4 := hB_V3.trans (hbw.mono hB_V3.size)
        replace hA0 := own_below hA0 hbw
        replace hTz := hTz.below hbw hTz.lt
        clear hbw
        go_wp2_with fail
        refine hK.out _ _ (SS _ hB_V4) (fun hHeld => ?_)
        clear hK K
        (try simp only [Act.put, List.setIfInBounds_toArray, List.set_cons_zero, List.set_cons_succ])
        refine wpAnyH_ready (rs := [6]) (by kernel_rfl) (by simp) ?_
        refine AllReadyH.cons rfl (fun K hK => ?_) AllReadyH.nil
        go_simp
        refine hK.out _ _ (SS _ hB_V4) (fun hHeld => ?_)
        clear hK K
        (try simp only [Act.put, List.setIfInBounds_toArray, List.set_cons_zero, List.set_cons_succ])
        refine wpAnyH_ready (rs := [7]) (by kernel_rfl) (by simp) ?_
        refine AllReadyH.cons rfl (fun K hK => ?_) AllReadyH.nil
        have t0 := hTz.cell 0
        have t1 := hTz.cell 1
        have t2 := hTz.cell 2
        have r0 := hTz.frozen 0
        have r1 := hTz.frozen 1
        have r2 := hTz.frozen 2
        go_simp
        have F0 := own_other hA0 hTz (by decide) 0 (.bool neg)
        have G0 := own_other hW0 hTz (by decide) 0 (.bool neg)
        have T0 := hTz.set_ 0 (.bool neg)
        have F1 := own_other F0 T0 (by decide) 1 (.slice At m ct)
        have G1 := own_other G0 T0 (by decide) 1 (.slice At m ct)
        have T1 := T0.set_ 1 (.slice At m ct)
        have hO2 := own_other F1 T1 (by decide) 2 (.int .i64 e)
        have hT2 := own_other G1 T1 (by decide) 2 (.int .i64 e)
        have hTb := T1.set_ 2 (.int .i64 e)
        have hB2 := ((hB_V4.setCell (p := ⟨gt, 0, none⟩) hgt0 (.bool neg)).setCell (p := ⟨gt, 1, none⟩) hgt0 (.slice At m ct)).setCell (p := ⟨gt, 2, none⟩) hgt0 (.int .i64 e)
        obtain ⟨w2, hE⟩ : ∃ W, W = ((V4.setCell ⟨gt, 0, none⟩ (.bool neg)).setCell ⟨gt, 1, none⟩ (.slice At m ct)).setCell ⟨gt, 2, none⟩ (.int .i64 e) := ⟨_, rfl⟩
        rw [← hE] at hO2 hT2 hTb hB2 ⊢
        replace hE := Lib.hid hE
        clear hE
        refine hK.out _ _ (SS _ hB2) (fun hHeld => ?_)
        clear hK K
        (try simp only [Act.put, List.setIfInBounds_toArray, List.set_cons_zero, List.set_cons_succ])
        refine wpAnyH_done (by kernel_rfl) ?_ _
        clear hTz hA0 hW0 F0 G0 T0 F1 G1 T1 t0 t1 t2 r0 r1 r2
        try clear hge0
        replace hTb : Blk w2 gt 26 #[.bool neg, .slice At m ct, .int .i64 e] := by simpa using hTb
        have hXb := hk1.below hB2 hk1.lt
        have hW2 := hB1.trans (hB2.mono hB1.size)
        replace hO2 := Reads.of_own hO2
        replace hT2 := Reads.of_own hT2
        clear hHeld SS tw hR1 hL1 k0 k1 k2 u1 hk1 hB2 hi0 hz0 hz1 hz2
        go_wp2_with fail
        refine (putn_u Ao n co b HN.out (by omega) x hx s _ hO2).mono ?_
        rintro en w3 ⟨Ax, cx, rfl, hx3, hb3⟩
        have hXb0 := pnX_byte HBy.out x s
        have hXm := pnX_len b x s
        obtain ⟨X, hX⟩ : ∃ X, pnX b x s = X := ⟨_, rfl⟩
        obtain ⟨e1, he1⟩ : ∃ e1, pnE b x s = e1 := ⟨_, rfl⟩
        rw [hX] at hXb0 hXm hx3 ⊢
        rw [he1]
        obtain ⟨nx, hXl⟩ : ∃ nx, X.length = nx := ⟨_, rfl⟩
        rw [hXl] at hx3 hXm ⊢
        have hB3 := hW2.trans (hb3.mono hW2.size)
        go_wp2_with fail
        refine (rputn_u A n c b HN.out (by omega) x hx s _ ((hR.below hB3).more hB3.size)).mono ?_
        rw [hX, he1]
        replace hX := Lib.hid hX
        replace he1 := Lib.hid he1
        rintro en w4 ⟨Ay, cy, rfl, hy4, hb4⟩
        rw [hXl] at hy4 ⊢
        replace hXl := Lib.hid hXl
        have hB4 := hB3.trans (hb4.mono hB3.size)
        have hB24 := hb3.trans (hb4.mono hb3.size)
        have hx4 := own_below hx3 hb4
        have hs24 := hB24.size
        have hgx : ∀ g, Ax = some ⟨g, 0, none⟩ → 0 < nx → g < w4.heap.size := fun g he h0 => by
          obtain ⟨g', cap', hAe, _, hgl⟩ := hx4.form h0
          injection hAe with hA1 _ hA2
          rw [he] at hA1
          injection hA1 with hA1
          injection hA1 with hA1
          omega
        have t4 := hTb.below hB24 hTb.lt
        have a0 := t4.cell 0
        have a1 := t4.cell 1
        have a2 := t4.cell 2
        go_wp2_with fail
        refine (putd_u Ao n co b HN.out (by omega) neg At m ct l HL.out hL0.out hLx.out e _ ((hO2.below hB24).more hB24.size) ((hT2.below hB24).more hB24.size)).mono ?_
        rintro en w5 ⟨Ap, cp, rfl, hp5, hb5⟩
        clear a0 a1 a2 t4
        have hPb0 := pdX_byte HBy.out neg l e
        have hPm := pdX_len b neg l e
        obtain ⟨P, hP⟩ : ∃ P, pdX b neg l e = P := ⟨_, rfl⟩
        obtain ⟨e2, he2⟩ : ∃ e2, pdE b neg l e = e2 := ⟨_, rfl⟩
        rw [hP] at hPb0 hPm hp5 ⊢
        rw [he2]
        obtain ⟨np, hPl⟩ : ∃ np, P.length = np := ⟨_, rfl⟩
        rw [hPl] at hp5 hPm ⊢
        have hB5 := hB4.trans (hb5.mono hB4.size)
        have hB25 := hB24.trans (hb5.mono hB24.size)
        have t5 := hXb.below hB25 hXb.lt
        have a0 := t5.cell 0
        have a1 := t5.cell 1
        have a2 := t5.cell 2
        go_wp2_with fail
        refine (rputd_u A n c b HN.out (by omega) neg L m lc l HL.out hL0.out hLx.out e _ ((hR.below hB5).more hB5.size) ((hL.below hB5).more hB5.size)).mono ?_
        rw [hP, he2]
        replace hP := Lib.hid hP
        replace he2 := Lib.hid he2
        rintro en w6 ⟨Aq, cq, rfl, hq6, hb6⟩
        rw [hPl] at hq6 ⊢
        have hb56 := hb5.trans (hb6.mono hb5.size)
        have hB26 := hB25.trans (hb6.mono hB25.size)
        have hx6 := own_below (own_below hx4 hb5) hb6
        have hp6 := own_below hp5 hb6
        have hXl' := hXl.out
        have kx : (convert 22 9 (.slice Ax nx cx)).run Try.prog w6 = .ok (.string (strI X)) w6 := conv_str hXl' hXb0 (Reads.of_own hx6)
        have ky : (convert 22 9 (.slice Ay nx cy)).run Try.prog w6 = .ok (.string (strI X)) w6 := conv_str hXl' hXb0 ((hy4.below hb5).below (hb6.mono hb5.size))
        have kp : (convert 22 9 (.slice Ap np cp)).run Try.prog w6 = .ok (.string (strI P)) w6 := conv_str hPl hPb0 (Reads.of_own hp6)
        have kq : (convert 22 9 (.slice Aq np cq)).run Try.prog w6 = .ok (.string (strI P)) w6 := conv_str hPl hPb0 hq6
        have sx := str_same X
        have sp := str_same P
        have he1' : (e1 == e1) = true := by simp
        have he2' : (e2 == e2) = true := by simp
        clear hb3 hb4 hb5 hb6 hb56 hq6 hy4 hx3 hx4 hp5 hB3 hB4 hB5 hB24 hB25 a0 a1 a2 t5
        go_wp2
        go_loopw [20] (fun i wr => ∃ (k : Nat) (Z : List Int), k ≤ nx ∧ i = .int .i64 k ∧ Z.length = nx ∧ (∀ b ∈ Z, 0 ≤ b ∧ b < 256) ∧ wr.ownsRow w2.heap.size 5 1 (.slice Ax nx cx) nx (u8s Z) ∧ wr.ownsRow w4.heap.size 5 1 (.slice Ap np cp) np (u8s P) ∧ Below w2.heap.size w2 wr) (fun i _ => nx - (intOf i).toNat)
        case atStart => exact ⟨0, X, by omega, rfl, hXl', hXb0, hx6, hp6, hB26⟩
        case round =>
          obtain ⟨k, Z, hk, rfl, hZl, hZb, hrow, hrp, hBr⟩ := hrel
          clear hx6 hp6 hB26
          by_cases hlt : k < nx
          · obtain ⟨g, cap', hAe, hgb, hgl⟩ := hrow.form (by omega)
            injection hAe with hA1 _ hA2
            subst hA1
            obtain ⟨z, hz⟩ : ∃ z, z = Z.getD k 0 := ⟨_, rfl⟩
            have hzb : 0 ≤ z ∧ z < 256 := by rw [hz, List.getD_eq_getElem?_getD, List.getElem?_eq_getElem (by omega)]; exact hZb _ (List.getElem_mem _)
            have ck : wr.cell? ⟨g, k, none⟩ = some (.int .u8 z) := (hrow.cellAt k (by omega)).trans (by rw [hz]; exact u8_at (by omega))
            have fk := hrow.frozenAt
            have j1 : (0 : Int) ≤ k := by omega
            have j2 : (k : Int) < nx := by omega
            have hst := (hrow.stored k (.int .u8 ((z + 1) % 256))).1
            rw [u8_set] at hst
            have hgg := (hrow.stored k (.int .u8 ((z + 1) % 256))).2
            have hZl2 : (Z.set k ((z + 1) % 256)).length = nx := by rw [List.length_set]; exact hZl
            have hZb2 : ∀ b ∈ Z.set k ((z + 1) % 256), 0 ≤ b ∧ b < 256 := fun y hy => by
              rcases List.mem_or_eq_of_mem_set hy with h | h
              · exact hZb y h
              · rw [h]; omega
            obtain ⟨z1, z2⟩ := hzb
            clear hz
            go_wp2
            go_roundw
            case rel => exact ⟨k + 1, Z.set k ((z + 1) % 256), by omega, by go_num, hZl2, hZb2, hst, hrp.kept hgg (row_apart hrp (hgx g rfl (by omega))), hBr.setCell (p := ⟨g, k, none⟩) (hgb) _⟩
            case measure => simp [intOf]; omega
          · obtain rfl : k = nx := by omega
            have hBr' := hBr
            have hrow' := hrow
            have hr6 := hZl
            clear hrow hZl hZb hBr
            go_wp2
            go_loopw [21] (fun i wr => ∃ (k : Nat) (Z : List Int), k ≤ np ∧ i = .int .i64 k ∧ Z.length = np ∧ (∀ b ∈ Z, 0 ≤ b ∧ b < 256) ∧ wr.ownsRow w4.heap.size 5 1 (.slice Ap np cp) np (u8s Z) ∧ Below w2.heap.size w2 wr) (fun i _ => np - (intOf i).toNat)
            case atStart => exact ⟨0, P, by omega, rfl, hPl, hPb0, hrp, hBr'⟩
            case round =>
              obtain ⟨k, Z, hk, rfl, hZl, hZb, hrow, hBr⟩ := hrel
              clear hrp hPl hPb0 hrow' hr6
              by_cases hlt : k < np
              · obtain ⟨g, cap', hAe, hgb, hgl⟩ := hrow.form (by omega)
                injection hAe with hA1 _ hA2
                subst hA1
                obtain ⟨z, hz⟩ : ∃ z, z = Z.getD k 0 := ⟨_, rfl⟩
                have hzb : 0 ≤ z ∧ z < 256 := by rw [hz, List.getD_eq_getElem?_getD, List.getElem?_eq_getElem (by omega)]; exact hZb _ (List.getElem_mem _)
                have ck : wr.cell? ⟨g, k, none⟩ = some (.int .u8 z) := (hrow.cellAt k (by omega)).trans (by rw [hz]; exact u8_at (by omega))
                have fk := hrow.frozenAt
                have j1 : (0 : Int) ≤ k := by omega
                have j2 : (k : Int) < np := by omega
                have hst := (hrow.stored k (.int .u8 ((z + 1) % 256))).1
                rw [u8_set] at hst
                have hgg := (hrow.stored k (.int .u8 ((z + 1) % 256))).2
                have hZl2 : (Z.set k ((z + 1) % 256)).length = np := by rw [List.length_set]; exact hZl
                have hZb2 : ∀ b ∈ Z.set k ((z + 1) % 256), 0 ≤ b ∧ b < 256 := fun y hy => by
                  rcases List.mem_or_eq_of_mem_set hy with h | h
                  · exact hZb y h
                  · rw [h]; omega
                obtain ⟨z1, z2⟩ := hzb
                clear hz
                go_wp2
                go_roundw
                case rel => exact ⟨k + 1, Z.set k ((z + 1) % 256), by omega, by go_num, hZl2, hZb2, hst, hBr.setCell (p := ⟨g, k, none⟩) (Nat.le_trans hs24 hgb) _⟩
                case measure => simp [intOf]; omega
              · obtain rfl : k = np := by omega
                have ko : (convert 22 9 (.slice Ao n co)).run Try.prog wr = .ok (.string (strI b)) wr := conv_str HN.out HBy.out (hO2.below hBr)
                have kb : (convert 22 9 (.slice A n c)).run Try.prog wr = .ok (.string (strI b)) wr := conv_str HN.out HBy.out (hR.below (hW2.trans (hBr.mono hW2.size)))
                have ks := str_same b
                have hfin := hW2.trans (hBr.mono hW2.size)
                have s1 := hTb.below hBr hTb.lt
                have s2 := hXb.below hBr hXb.lt
                have a0 := s1.cell 0
                have a1 := s1.cell 1
                have a2 := s1.cell 2
                have c0 := s2.cell 0
                have c1 := s2.cell 1
                have c2 := s2.cell 2
                have hds := dsame_yes neg e At L m ct lc l HL.out (by omega) wr ((hT2.below hBr).more hBr.size) ((hL.below hfin).more hfin.size)
                clear hrow hBr hR hO2 hT2 hL hTb hXb s1 s2 hZl hZb
                go_wp2_with fail
                refine hds.mono ?_
                rintro en w9 ⟨rfl, hb9⟩
                clear hds
                go_wp2
                go_ret
                exact ⟨rfl, hfin.trans (hb9.mono hfin.size)⟩
    · go_simp
      have hTz := Blk.new V1 26 #[.bool false, .slice none 0 0, .int .i64 0]
      have hB_V2 := hB_V1.alloc hB_V1.size (.cells #[.bool false, .slice none 0 0, .int .i64 0] 26)
      have hgt0 := hB_V1.size
      replace hE0 := hE0.alloc (.cells #[.bool false, .slice none 0 0, .int .i64 0] 26)
      generalize hgt : V1.heap.size = gt at hTz hgt0 ⊢
      clear hgt
      obtain ⟨V2, hE⟩ : ∃ W, W = V1.alloc (.cells #[.bool false, .slice none 0 0, .int .i64 0] 26) := ⟨_, rfl⟩
      rw [← hE] at hTz hB_V2 hE0 ⊢
      replace hE := Lib.hid hE
      clear hE
      refine hK.out _ _ (SS _ hB_V2) (fun hHeld => ?_)
      clear hK K
      (try simp only [Act.put, List.setIfInBounds_toArray, List.set_cons_zero, List.set_cons_succ])
      refine wpAnyH_ready (rs := [2]) (by kernel_rfl) (by simp) ?_
      refine AllReadyH.cons rfl (fun K hK => ?_) AllReadyH.nil
      have hown0 := own_blk (cs := []) w1.heap.size 1 0 hE0 hge0 rfl (by unfold maxLen; omega)
      refine step_append_any _ rfl (.tmp 29) (.tmp 30) _ rfl w1.heap.size 5 i0 _ 1 1 Try.underlying22 hi0 hz0 hz1 hz2 rfl (by omega) (.slice (some ⟨g0, 0, none⟩) 0 0) 0 [] rfl hown0 w.heap.size A n c (u8s b) rfl (hR.below (hB1.trans (hB_V2.mono hB1.size))) u1 (by unfold maxLen; omega) (by omega) hB_V2.size ?_
      intro vo V3 hA0 hgr _
      simp only [Nat.zero_add, List.nil_append] at hA0
      obtain ⟨Ao, co, rfl, _, _⟩ := own_slice hA0
      have hB_V3 := hB_V2.grown hgr hB_V2.size (by intro q hq; simp [Value.ownBlock] at hq; omega)
      replace hTz := hTz.grown hgr (by have := hTz.ne_ hE0 (by decide); simp [Value.ownBlock]; exact this)
      clear hown0 hgr hE0
      refine hK.out _ _ (SS _ hB_V3) (fun hHeld => ?_)
      clear hK K
      (try simp only [Act.put, List.setIfInBounds_toArray, List.set_cons_zero, List.set_cons_succ])
      refine wpAnyH_ready (rs := [4]) (by kernel_rfl) (by simp) ?_
      refine AllReadyH.cons rfl (fun K hK => ?_) AllReadyH.nil
      go_simp
      refine (tw _ ((hL.below (hB1.trans (hB_V3.mono hB1.size))).more (hB1.trans (hB_V3.mono hB1.size)).size)).mono ?_
      rintro en V4 ⟨At, ct, rfl, hW0, hbw⟩
      have hB_V4 := hB_V3.trans (hbw.mono hB_V3.size)
      replace hA0 := own_below hA0 hbw
      replace hTz := hTz.below hbw hTz.lt
      clear hbw
      go_wp2_with fail
      refine hK.out _ _ (SS _ hB_V4) (fun hHeld => ?_)
      clear hK K
      (try simp only [Act.put, List.setIfInBounds_toArray, List.set_cons_zero, List.set_cons_succ])
      refine wpAnyH_ready (rs := [6]) (by kernel_rfl) (by simp) ?_
      refine AllReadyH.cons rfl (fun K hK => ?_) AllReadyH.nil
      go_simp
      refine hK.out _ _ (SS _ hB_V4) (fun hHeld => ?_)
      clear hK K
      (try simp only [Act.put, List.setIfInBounds_toArray, List.set_cons_zero, List.set_cons_succ])
      refine wpAnyH_ready (rs := [7]) (by kernel_rfl) (by simp) ?_
      refine AllReadyH.cons rfl (fun K hK => ?_) AllReadyH.nil
      have t0 := hTz.cell 0
      have t1 := hTz.cell 1
      have t2 := hTz.cell 2
      have r0 := hTz.frozen 0
      have r1 := hTz.frozen 1
      have r2 := hTz.frozen 2
      go_simp
      have F0 := own_other hA0 hTz (by decide) 0 (.bool neg)
      have G0 := own_other hW0 hTz (by decide) 0 (.bool neg)
      have T0 := hTz.set_ 0 (.bool neg)
      have F1 := own_other F0 T0 (by decide) 1 (.slice At m ct)
      have G1 := own_other G0 T0 (by decide) 1 (.slice At m ct)
      have T1 := T0.set_ 1 (.slice At m ct)
      have hO2 := own_other F1 T1 (by decide) 2 (.int .i64 e)
      have hT2 := own_other G1 T1 (by decide) 2 (.int .i64 e)
      have hTb := T1.set_ 2 (.int .i64 e)
      have hB2 := ((hB_V4.setCell (p := ⟨gt, 0, none⟩) hgt0 (.bool neg)).setCell (p := ⟨gt, 1, none⟩) hgt0 (.slice At m ct)).setCell (p := ⟨gt, 2, none⟩) hgt0 (.int .i64 e)
      obtain ⟨w2, hE⟩ : ∃ W, W = ((V4.setCell ⟨gt, 0, none⟩ (.bool neg)).setCell ⟨gt, 1, none⟩ (.slice At m ct)).setCell ⟨gt, 2, none⟩ (.int .i64 e) := ⟨_, rfl⟩
      rw [← hE] at hO2 hT2 hTb hB2 ⊢
      replace hE := Lib.hid hE
      clear hE
      refine hK.out _ _ (SS _ hB2) (fun hHeld => ?_)
      clear hK K
      (try simp only [Act.put, List.setIfInBounds_toArray, List.set_cons_zero, List.set_cons_succ])
      refine wpAnyH_done (by kernel_rfl) ?_ _
      clear hTz hA0 hW0 F0 G0 T0 F1 G1 T1 t0 t1 t2 r0 r1 r2
      try clear hge0
      replace hTb : Blk w2 gt 26 #[.bool neg, .slice At m ct, .int .i64 e] := by simpa using hTb
      have hXb := hk1.below hB2 hk1.lt
      have hW2 := hB1.trans (hB2.mono hB1.size)
      replace hO2 := Reads.of_own hO2
      replace hT2 := Reads.of_own hT2
      clear hHeld SS tw hR1 hL1 k0 k1 k2 u1 hk1 hB2 hi0 hz0 hz1 hz2
      go_wp2_with fail
      refine (putn_u Ao n co b HN.out (by omega) x hx s _ hO2).mono ?_
      rintro en w3 ⟨Ax, cx, rfl, hx3, hb3⟩
      have hXb0 := pnX_byte HBy.out x s
      have hXm := pnX_len b x s
      obtain ⟨X, hX⟩ : ∃ X, pnX b x s = X := ⟨_, rfl⟩
      obtain ⟨e1, he1⟩ : ∃ e1, pnE b x s = e1 := ⟨_, rfl⟩
      rw [hX] at hXb0 hXm hx3 ⊢
      rw [he1]
      obtain ⟨nx, hXl⟩ : ∃ nx, X.length = nx := ⟨_, rfl⟩
      rw [hXl] at hx3 hXm ⊢
      have hB3 := hW2.trans (hb3.mono hW2.size)
      go_wp2_with fail
      refine (rputn_u A n c b HN.out (by omega) x hx s _ ((hR.below hB3).more hB3.size)).mono ?_
      rw [hX, he1]
      replace hX := Lib.hid hX
      replace he1 := Lib.hid he1
      rintro en w4 ⟨Ay, cy, rfl, hy4, hb4⟩
      rw [hXl] at hy4 ⊢
      replace hXl := Lib.hid hXl
      have hB4 := hB3.trans (hb4.mono hB3.size)
      have hB24 := hb3.trans (hb4.mono hb3.size)
      have hx4 := own_below hx3 hb4
      have hs24 := hB24.size
      have hgx : ∀ g, Ax = some ⟨g, 0, none⟩ → 0 < nx → g < w4.heap.size := fun g he h0 => by
        obtain ⟨g', cap', hAe, _, hgl⟩ := hx4.form h0
        injection hAe with hA1 _ hA2
        rw [he] at hA1
        injection hA1 with hA1
        injection hA1 with hA1
        omega
      have t4 := hTb.below hB24 hTb.lt
      have a0 := t4.cell 0
      have a1 := t4.cell 1
      have a2 := t4.cell 2
      go_wp2_with fail
      refine (putd_u Ao n co b HN.out (by omega) neg At m ct l HL.out hL0.out hLx.out e _ ((hO2.below hB24).more hB24.size) ((hT2.below hB24).more hB24.size)).mono ?_
      rintro en w5 ⟨Ap, cp, rfl, hp5, hb5⟩
      clear a0 a1 a2 t4
      have hPb0 := pdX_byte HBy.out neg l e
      have hPm := pdX_len b neg l e
      obtain ⟨P, hP⟩ : ∃ P, pdX b neg l e = P := ⟨_, rfl⟩
      obtain ⟨e2, he2⟩ : ∃ e2, pdE b neg l e = e2 := ⟨_, rfl⟩
      rw [hP] at hPb0 hPm hp5 ⊢
      rw [he2]
      obtain ⟨np, hPl⟩ : ∃ np, P.length = np := ⟨_, rfl⟩
      rw [hPl] at hp5 hPm ⊢
      have hB5 := hB4.trans (hb5.mono hB4.size)
      have hB25 := hB24.trans (hb5.mono hB24.size)
      have t5 := hXb.below hB25 hXb.lt
      have a0 := t5.cell 0
      have a1 := t5.cell 1
      have a2 := t5.cell 2
      go_wp2_with fail
      refine (rputd_u A n c b HN.out (by omega) neg L m lc l HL.out hL0.out hLx.out e _ ((hR.below hB5).more hB5.size) ((hL.below hB5).more hB5.size)).mono ?_
      rw [hP, he2]
      replace hP := Lib.hid hP
      replace he2 := Lib.hid he2
      rintro en w6 ⟨Aq, cq, rfl, hq6, hb6⟩
      rw [hPl] at hq6 ⊢
      have hb56 := hb5.trans (hb6.mono hb5.size)
      have hB26 := hB25.trans (hb6.mono hB25.size)
      have hx6 := own_below (own_below hx4 hb5) hb6
      have hp6 := own_below hp5 hb6
      have hXl' := hXl.out
      have kx : (convert 22 9 (.slice Ax nx cx)).run Try.prog w6 = .ok (.string (strI X)) w6 := conv_str hXl' hXb0 (Reads.of_own hx6)
      have ky : (convert 22 9 (.slice Ay nx cy)).run Try.prog w6 = .ok (.string (strI X)) w6 := conv_str hXl' hXb0 ((hy4.below hb5).below (hb6.mono hb5.size))
      have kp : (convert 22 9 (.slice Ap np cp)).run Try.prog w6 = .ok (.string (strI P)) w6 := conv_str hPl hPb0 (Reads.of_own hp6)
      have kq : (convert 22 9 (.slice Aq np cq)).run Try.prog w6 = .ok (.string (strI P)) w6 := conv_str hPl hPb0 hq6
      have sx := str_same X
      have sp := str_same P
      have he1' : (e1 == e1) = true := by simp
      have he2' : (e2 == e2) = true := by simp
      clear hb3 hb4 hb5 hb6 hb56 hq6 hy4 hx3 hx4 hp5 hB3 hB4 hB5 hB24 hB25 a0 a1 a2 t5
      go_wp2
      go_loopw [20] (fun i wr => ∃ (k : Nat) (Z : List Int), k ≤ nx ∧ i = .int .i64 k ∧ Z.length = nx ∧ (∀ b ∈ Z, 0 ≤ b ∧ b < 256) ∧ wr.ownsRow w2.heap.size 5 1 (.slice Ax nx cx) nx (u8s Z) ∧ wr.ownsRow w4.heap.size 5 1 (.slice Ap np cp) np (u8s P) ∧ Below w2.heap.size w2 wr) (fun i _ => nx - (intOf i).toNat)
      case atStart => exact ⟨0, X, by omega, rfl, hXl', hXb0, hx6, hp6, hB26⟩
      case round =>
        obtain ⟨k, Z, hk, rfl, hZl, hZb, hrow, hrp, hBr⟩ := hrel
        clear hx6 hp6 hB26
        by_cases hlt : k < nx
        · obtain ⟨g, cap', hAe, hgb, hgl⟩ := hrow.form (by omega)
          injection hAe with hA1 _ hA2
          subst hA1
          obtain ⟨z, hz⟩ : ∃ z, z = Z.getD k 0 := ⟨_, rfl⟩
          have hzb : 0 ≤ z ∧ z < 256 := by rw [hz, List.getD_eq_getElem?_getD, List.getElem?_eq_getElem (by omega)]; exact hZb _ (List.getElem_mem _)
          have ck : wr.cell? ⟨g, k, none⟩ = some (.int .u8 z) := (hrow.cellAt k (by omega)).trans (by rw [hz]; exact u8_at (by omega))
          have fk := hrow.frozenAt
          have j1 : (0 : Int) ≤ k := by omega
          have j2 : (k : Int) < nx := by omega
          have hst := (hrow.stored k (.int .u8 ((z + 1) % 256))).1
          rw [u8_set] at hst
          have hgg := (hrow.stored k (.int .u8 ((z + 1) % 256))).2
          have hZl2 : (Z.set k ((z + 1) % 256)).length = nx := by rw [List.length_set]; exact hZl
          have hZb2 : ∀ b ∈ Z.set k ((z + 1) % 256), 0 ≤ b ∧ b < 256 := fun y hy => by
            rcases List.mem_or_eq_of_mem_set hy with h | h
            · exact hZb y h
            · rw [h]; omega
          obtain ⟨z1, z2⟩ := hzb
          clear hz
          go_wp2
          go_roundw
          case rel => exact ⟨k + 1, Z.set k ((z + 1) % 256), by omega, by go_num, hZl2, hZb2, hst, hrp.kept hgg (row_apart hrp (hgx g rfl (by omega))), hBr.setCell (p := ⟨g, k, none⟩) (hgb) _⟩
          case measure => simp [intOf]; omega
        · obtain rfl : k = nx := by omega
          have hBr' := hBr
          have hrow' := hrow
          have hr6 := hZl
          clear hrow hZl hZb hBr
          go_wp2
          go_loopw [21] (fun i wr => ∃ (k : Nat) (Z : List Int), k ≤ np ∧ i = .int .i64 k ∧ Z.length = np ∧ (∀ b ∈ Z, 0 ≤ b ∧ b < 256) ∧ wr.ownsRow w4.heap.size 5 1 (.slice Ap np cp) np (u8s Z) ∧ Below w2.heap.size w2 wr) (fun i _ => np - (intOf i).toNat)
          case atStart => exact ⟨0, P, by omega, rfl, hPl, hPb0, hrp, hBr'⟩
          case round =>
            obtain ⟨k, Z, hk, rfl, hZl, hZb, hrow, hBr⟩ := hrel
            clear hrp hPl hPb0 hrow' hr6
            by_cases hlt : k < np
            · obtain ⟨g, cap', hAe, hgb, hgl⟩ := hrow.form (by omega)
              injection hAe with hA1 _ hA2
              subst hA1
              obtain ⟨z, hz⟩ : ∃ z, z = Z.getD k 0 := ⟨_, rfl⟩
              have hzb : 0 ≤ z ∧ z < 256 := by rw [hz, List.getD_eq_getElem?_getD, List.getElem?_eq_getElem (by omega)]; exact hZb _ (List.getElem_mem _)
              have ck : wr.cell? ⟨g, k, none⟩ = some (.int .u8 z) := (hrow.cellAt k (by omega)).trans (by rw [hz]; exact u8_at (by omega))
              have fk := hrow.frozenAt
              have j1 : (0 : Int) ≤ k := by omega
              have j2 : (k : Int) < np := by omega
              have hst := (hrow.stored k (.int .u8 ((z + 1) % 256))).1
              rw [u8_set] at hst
              have hgg := (hrow.stored k (.int .u8 ((z + 1) % 256))).2
              have hZl2 : (Z.set k ((z + 1) % 256)).length = np := by rw [List.length_set]; exact hZl
              have hZb2 : ∀ b ∈ Z.set k ((z + 1) % 256), 0 ≤ b ∧ b < 256 := fun y hy => by
                rcases List.mem_or_eq_of_mem_set hy with h | h
                · exact hZb y h
                · rw [h]; omega
              obtain ⟨z1, z2⟩ := hzb
              clear hz
              go_wp2
              go_roundw
              case rel => exact ⟨k + 1, Z.set k ((z + 1) % 256), by omega, by go_num, hZl2, hZb2, hst, hBr.setCell (p := ⟨g, k, none⟩) (Nat.le_trans hs24 hgb) _⟩
              case measure => simp [intOf]; omega
            · obtain rfl : k = np := by omega
              have ko : (convert 22 9 (.slice Ao n co)).run Try.prog wr = .ok (.string (strI b)) wr := conv_str HN.out HBy.out (hO2.below hBr)
              have kb : (convert 22 9 (.slice A n c)).run Try.prog wr = .ok (.string (strI b)) wr := conv_str HN.out HBy.out (hR.below (hW2.trans (hBr.mono hW2.size)))
              have ks := str_same b
              have hfin := hW2.trans (hBr.mono hW2.size)
              have s1 := hTb.below hBr hTb.lt
              have s2 := hXb.below hBr hXb.lt
              have a0 := s1.cell 0
              have a1 := s1.cell 1
              have a2 := s1.cell 2
              have c0 := s2.cell 0
              have c1 := s2.cell 1
              have c2 := s2.cell 2
              have hds := dsame_yes neg e At L m ct lc l HL.out (by omega) wr ((hT2.below hBr).more hBr.size) ((hL.below hfin).more hfin.size)
              clear hrow hBr hR hO2 hT2 hL hTb hXb s1 s2 hZl hZb
              go_wp2_with fail
              refine hds.mono ?_
              rintro en w9 ⟨rfl, hb9⟩
              clear hds
              go_wp2
              go_ret
              exact ⟨rfl, hfin.trans (hb9.mono hfin.size)⟩
  · go_simp
    have hTz := Blk.new V0 26 #[.bool false, .slice none 0 0, .int .i64 0]
    have hB_V1 := hB_V0.alloc hB_V0.size (.cells #[.bool false, .slice none 0 0, .int .i64 0] 26)
    have hgt0 := hB_V0.size
    generalize hgt : V0.heap.size = gt at hTz hgt0 ⊢
    clear hgt
    obtain ⟨V1, hE⟩ : ∃ W, W = V0.alloc (.cells #[.bool false, .slice none 0 0, .int .i64 0] 26) := ⟨_, rfl⟩
    rw [← hE] at hTz hB_V1 ⊢
    replace hE := Lib.hid hE
    clear hE
    refine hK.out _ _ (SS _ hB_V1) (fun hHeld => ?_)
    clear hK K
    (try simp only [Act.put, List.setIfInBounds_toArray, List.set_cons_zero, List.set_cons_succ])
    refine wpAnyH_ready (rs := [0]) (by kernel_rfl) (by simp) ?_
    refine AllReadyH.cons rfl (fun K hK => ?_) AllReadyH.nil
    go_simp
    have hE0 := Blk.new V1 5 #[]
    have hB_V2 := hB_V1.alloc hB_V1.size (.cells #[] 5)
    have hge0 := hB_V1.size
    replace hTz := hTz.alloc (.cells #[] 5)
    generalize hg0 : V1.heap.size = g0 at hE0 hge0 ⊢
    clear hg0
    obtain ⟨V2, hE⟩ : ∃ W, W = V1.alloc (.cells #[] 5) := ⟨_, rfl⟩
    rw [← hE] at hE0 hB_V2 hTz ⊢
    replace hE := Lib.hid hE
    clear hE
    refine hK.out _ _ (SS _ hB_V2) (fun hHeld => ?_)
    clear hK K
    (try simp only [Act.put, List.setIfInBounds_toArray, List.set_cons_zero, List.set_cons_succ])
    refine wpAnyH_ready (rs := [2]) (by kernel_rfl) (by simp) ?_
    refine AllReadyH.cons rfl (fun K hK => ?_) AllReadyH.nil
    have hown0 := own_blk (cs := []) w1.heap.size 1 0 hE0 hge0 rfl (by unfold maxLen; omega)
    refine step_append_any _ rfl (.tmp 29) (.tmp 30) _ rfl w1.heap.size 5 i0 _ 1 1 Try.underlying22 hi0 hz0 hz1 hz2 rfl (by omega) (.slice (some ⟨g0, 0, none⟩) 0 0) 0 [] rfl hown0 w.heap.size A n c (u8s b) rfl (hR.below (hB1.trans (hB_V2.mono hB1.size))) u1 (by unfold maxLen; omega) (by omega) hB_V2.size ?_
    intro vo V3 hA0 hgr _
    simp only [Nat.zero_add, List.nil_append] at hA0
    obtain ⟨Ao, co, rfl, _, _⟩ := own_slice hA0
    have hB_V3 := hB_V2.grown hgr hB_V2.size (by intro q hq; simp [Value.ownBlock] at hq; omega)
    replace hTz := hTz.grown hgr (by have := hTz.ne_ hE0 (by decide); simp [Value.ownBlock]; exact this)
    clear hown0 hgr hE0
    refine hK.out _ _ (SS _ hB_V3) (fun hHeld => ?_)
    clear hK K
    (try simp only [Act.put, List.setIfInBounds_toArray, List.set_cons_zero, List.set_cons_succ])
    refine wpAnyH_ready (rs := [4]) (by kernel_rfl) (by simp) ?_
    refine AllReadyH.cons rfl (fun K hK => ?_) AllReadyH.nil
    go_simp
    refine (tw _ ((hL.below (hB1.trans (hB_V3.mono hB1.size))).more (hB1.trans (hB_V3.mono hB1.size)).size)).mono ?_
    rintro en V4 ⟨At, ct, rfl, hW0, hbw⟩
    have hB_V4 := hB_V3.trans (hbw.mono hB_V3.size)
    replace hA0 := own_below hA0 hbw
    replace hTz := hTz.below hbw hTz.lt
    clear hbw
    go_wp2_with fail
    refine hK.out _ _ (SS _ hB_V4) (fun hHeld => ?_)
    clear hK K
    (try simp only [Act.put, List.setIfInBounds_toArray, List.set_cons_zero, List.set_cons_succ])
    refine wpAnyH_ready (rs := [6]) (by kernel_rfl) (by simp) ?_
    refine AllReadyH.cons rfl (fun K hK => ?_) AllReadyH.nil
    go_simp
    refine hK.out _ _ (SS _ hB_V4) (fun hHeld => ?_)
    clear hK K
    (try simp only [Act.put, List.setIfInBounds_toArray, List.set_cons_zero, List.set_cons_succ])
    refine wpAnyH_ready (rs := [7]) (by kernel_rfl) (by simp) ?_
    refine AllReadyH.cons rfl (fun K hK => ?_) AllReadyH.nil
    have t0 := hTz.cell 0
    have t1 := hTz.cell 1
    have t2 := hTz.cell 2
    have r0 := hTz.frozen 0
    have r1 := hTz.frozen 1
    have r2 := hTz.frozen 2
    go_simp
    have F0 := own_other hA0 hTz (by decide) 0 (.bool neg)
    have G0 := own_other hW0 hTz (by decide) 0 (.bool neg)
    have T0 := hTz.set_ 0 (.bool neg)
    have F1 := own_other F0 T0 (by decide) 1 (.slice At m ct)
    have G1 := own_other G0 T0 (by decide) 1 (.slice At m ct)
    have T1 := T0.set_ 1 (.slice At m ct)
    have hO2 := own_other F1 T1 (by decide) 2 (.int .i64 e)
    have hT2 := own_other G1 T1 (by decide) 2 (.int .i64 e)
    have hTb := T1.set_ 2 (.int .i64 e)
    have hB2 := ((hB_V4.setCell (p := ⟨gt, 0, none⟩) hgt0 (.bool neg)).setCell (p := ⟨gt, 1, none⟩) hgt0 (.slice At m ct)).setCell (p := ⟨gt, 2, none⟩) hgt0 (.int .i64 e)
    obtain ⟨w2, hE⟩ : ∃ W, W = ((V4.setCell ⟨gt, 0, none⟩ (.bool neg)).setCell ⟨gt, 1, none⟩ (.slice At m ct)).setCell ⟨gt, 2, none⟩ (.int .i64 e) := ⟨_, rfl⟩
    rw [← hE] at hO2 hT2 hTb hB2 ⊢
    replace hE := Lib.hid hE
    clear hE
    refine hK.out _ _ (SS _ hB2) (fun hHeld => ?_)
    clear hK K
    (try simp only [Act.put, List.setIfInBounds_toArray, List.set_cons_zero, List.set_cons_succ])
    refine wpAnyH_done (by kernel_rfl) ?_ _
    clear hTz hA0 hW0 F0 G0 T0 F1 G1 T1 t0 t1 t2 r0 r1 r2
    try clear hge0
    replace hTb : Blk w2 gt 26 #[.bool neg, .slice At m ct, .int .i64 e] := by simpa using hTb
    have hXb := hk1.below hB2 hk1.lt
    have hW2 := hB1.trans (hB2.mono hB1.size)
    replace hO2 := Reads.of_own hO2
    replace hT2 := Reads.of_own hT2
    clear hHeld SS tw hR1 hL1 k0 k1 k2 u1 hk1 hB2 hi0 hz0 hz1 hz2
    go_wp2_with fail
    refine (putn_u Ao n co b HN.out (by omega) x hx s _ hO2).mono ?_
    rintro en w3 ⟨Ax, cx, rfl, hx3, hb3⟩
    have hXb0 := pnX_byte HBy.out x s
    have hXm := pnX_len b x s
    obtain ⟨X, hX⟩ : ∃ X, pnX b x s = X := ⟨_, rfl⟩
    obtain ⟨e1, he1⟩ : ∃ e1, pnE b x s = e1 := ⟨_, rfl⟩
    rw [hX] at hXb0 hXm hx3 ⊢
    rw [he1]
    obtain ⟨nx, hXl⟩ : ∃ nx, X.length = nx := ⟨_, rfl⟩
    rw [hXl] at hx3 hXm ⊢
    have hB3 := hW2.trans (hb3.mono hW2.size)
    go_wp2_with fail
    refine (rputn_u A n c b HN.out (by omega) x hx s _ ((hR.below hB3).more hB3.size)).mono ?_
    rw [hX, he1]
    replace hX := Lib.hid hX
    replace he1 := Lib.hid he1
    rintro en w4 ⟨Ay, cy, rfl, hy4, hb4⟩
    rw [hXl] at hy4 ⊢
    replace hXl := Lib.hid hXl
    have hB4 := hB3.trans (hb4.mono hB3.size)
    have hB24 := hb3.trans (hb4.mono hb3.size)
    have hx4 := own_below hx3 hb4
    have hs24 := hB24.size
    have hgx : ∀ g, Ax = some ⟨g, 0, none⟩ → 0 < nx → g < w4.heap.size := fun g he h0 => by
      obtain ⟨g', cap', hAe, _, hgl⟩ := hx4.form h0
      injection hAe with hA1 _ hA2
      rw [he] at hA1
      injection hA1 with hA1
      injection hA1 with hA1
      omega
    have t4 := hTb.below hB24 hTb.lt
    have a0 := t4.cell 0
    have a1 := t4.cell 1
    have a2 := t4.cell 2
    go_wp2_with fail
    refine (putd_u Ao n co b HN.out (by omega) neg At m ct l HL.out hL0.out hLx.out e _ ((hO2.below hB24).more hB24.size) ((hT2.below hB24).more hB24.size)).mono ?_
    rintro en w5 ⟨Ap, cp, rfl, hp5, hb5⟩
    clear a0 a1 a2 t4
    have hPb0 := pdX_byte HBy.out neg l e
    have hPm := pdX_len b neg l e
    obtain ⟨P, hP⟩ : ∃ P, pdX b neg l e = P := ⟨_, rfl⟩
    obtain ⟨e2, he2⟩ : ∃ e2, pdE b neg l e = e2 := ⟨_, rfl⟩
    rw [hP] at hPb0 hPm hp5 ⊢
    rw [he2]
    obtain ⟨np, hPl⟩ : ∃ np, P.length = np := ⟨_, rfl⟩
    rw [hPl] at hp5 hPm ⊢
    have hB5 := hB4.trans (hb5.mono hB4.size)
    have hB25 := hB24.trans (hb5.mono hB24.size)
    have t5 := hXb.below hB25 hXb.lt
    have a0 := t5.cell 0
    have a1 := t5.cell 1
    have a2 := t5.cell 2
    go_wp2_with fail
    refine (rputd_u A n c b HN.out (by omega) neg L m lc l HL.out hL0.out hLx.out e _ ((hR.below hB5).more hB5.size) ((hL.below hB5).more hB5.size)).mono ?_
    rw [hP, he2]
    replace hP := Lib.hid hP
    replace he2 := Lib.hid he2
    rintro en w6 ⟨Aq, cq, rfl, hq6, hb6⟩
    rw [hPl] at hq6 ⊢
    have hb56 := hb5.trans (hb6.mono hb5.size)
    have hB26 := hB25.trans (hb6.mono hB25.size)
    have hx6 := own_below (own_below hx4 hb5) hb6
    have hp6 := own_below hp5 hb6
    have hXl' := hXl.out
    have kx : (convert 22 9 (.slice Ax nx cx)).run Try.prog w6 = .ok (.string (strI X)) w6 := conv_str hXl' hXb0 (Reads.of_own hx6)
    have ky : (convert 22 9 (.slice Ay nx cy)).run Try.prog w6 = .ok (.string (strI X)) w6 := conv_str hXl' hXb0 ((hy4.below hb5).below (hb6.mono hb5.size))
    have kp : (convert 22 9 (.slice Ap np cp)).run Try.prog w6 = .ok (.string (strI P)) w6 := conv_str hPl hPb0 (Reads.of_own hp6)
    have kq : (convert 22 9 (.slice Aq np cq)).run Try.prog w6 = .ok (.string (strI P)) w6 := conv_str hPl hPb0 hq6
    have sx := str_same X
    have sp := str_same P
    have he1' : (e1 == e1) = true := by simp
    have he2' : (e2 == e2) = true := by simp
    clear hb3 hb4 hb5 hb6 hb56 hq6 hy4 hx3 hx4 hp5 hB3 hB4 hB5 hB24 hB25 a0 a1 a2 t5
    go_wp2
    go_loopw [20] (fun i wr => ∃ (k : Nat) (Z : List Int), k ≤ nx ∧ i = .int .i64 k ∧ Z.length = nx ∧ (∀ b ∈ Z, 0 ≤ b ∧ b < 256) ∧ wr.ownsRow w2.heap.size 5 1 (.slice Ax nx cx) nx (u8s Z) ∧ wr.ownsRow w4.heap.size 5 1 (.slice Ap np cp) np (u8s P) ∧ Below w2.heap.size w2 wr) (fun i _ => nx - (intOf i).toNat)
    case atStart => exact ⟨0, X, by omega, rfl, hXl', hXb0, hx6, hp6, hB26⟩
    case round =>
      obtain ⟨k, Z, hk, rfl, hZl, hZb, hrow, hrp, hBr⟩ := hrel
      clear hx6 hp6 hB26
      by_cases hlt : k < nx
      · obtain ⟨g, cap', hAe, hgb, hgl⟩ := hrow.form (by omega)
        injection hAe with hA1 _ hA2
        subst hA1
        obtain ⟨z, hz⟩ : ∃ z, z = Z.getD k 0 := ⟨_, rfl⟩
        have hzb : 0 ≤ z ∧ z < 256 := by rw [hz, List.getD_eq_getElem?_getD, List.getElem?_eq_getElem (by omega)]; exact hZb _ (List.getElem_mem _)
        have ck : wr.cell? ⟨g, k, none⟩ = some (.int .u8 z) := (hrow.cellAt k (by omega)).trans (by rw [hz]; exact u8_at (by omega))
        have fk := hrow.frozenAt
        have j1 : (0 : Int) ≤ k := by omega
        have j2 : (k : Int) < nx := by omega
        have hst := (hrow.stored k (.int .u8 ((z + 1) % 256))).1
        rw [u8_set] at hst
        have hgg := (hrow.stored k (.int .u8 ((z + 1) % 256))).2
        have hZl2 : (Z.set k ((z + 1) % 256)).length = nx := by rw [List.length_set]; exact hZl
        have hZb2 : ∀ b ∈ Z.set k ((z + 1) % 256), 0 ≤ b ∧ b < 256 := fun y hy => by
          rcases List.mem_or_eq_of_mem_set hy with h | h
          · exact hZb y h
          · rw [h]; omega
        obtain ⟨z1, z2⟩ := hzb
        clear hz
        go_wp2
        go_roundw
        case rel => exact ⟨k + 1, Z.set k ((z + 1) % 256), by omega, by go_num, hZl2, hZb2, hst, hrp.kept hgg (row_apart hrp (hgx g rfl (by omega))), hBr.setCell (p := ⟨g, k, none⟩) (hgb) _⟩
        case measure => simp [intOf]; omega
      · obtain rfl : k = nx := by omega
        have hBr' := hBr
        have hrow' := hrow
        have hr6 := hZl
        clear hrow hZl hZb hBr
        go_wp2
        go_loopw [21] (fun i wr => ∃ (k : Nat) (Z : List Int), k ≤ np ∧ i = .int .i64 k ∧ Z.length = np ∧ (∀ b ∈ Z, 0 ≤ b ∧ b < 256) ∧ wr.ownsRow w4.heap.size 5 1 (.slice Ap np cp) np (u8s Z) ∧ Below w2.heap.size w2 wr) (fun i _ => np - (intOf i).toNat)
        case atStart => exact ⟨0, P, by omega, rfl, hPl, hPb0, hrp, hBr'⟩
        case round =>
          obtain ⟨k, Z, hk, rfl, hZl, hZb, hrow, hBr⟩ := hrel
          clear hrp hPl hPb0 hrow' hr6
          by_cases hlt : k < np
          · obtain ⟨g, cap', hAe, hgb, hgl⟩ := hrow.form (by omega)
            injection hAe with hA1 _ hA2
            subst hA1
            obtain ⟨z, hz⟩ : ∃ z, z = Z.getD k 0 := ⟨_, rfl⟩
            have hzb : 0 ≤ z ∧ z < 256 := by rw [hz, List.getD_eq_getElem?_getD, List.getElem?_eq_getElem (by omega)]; exact hZb _ (List.getElem_mem _)
            have ck : wr.cell? ⟨g, k, none⟩ = some (.int .u8 z) := (hrow.cellAt k (by omega)).trans (by rw [hz]; exact u8_at (by omega))
            have fk := hrow.frozenAt
            have j1 : (0 : Int) ≤ k := by omega
            have j2 : (k : Int) < np := by omega
            have hst := (hrow.stored k (.int .u8 ((z + 1) % 256))).1
            rw [u8_set] at hst
            have hgg := (hrow.stored k (.int .u8 ((z + 1) % 256))).2
            have hZl2 : (Z.set k ((z + 1) % 256)).length = np := by rw [List.length_set]; exact hZl
            have hZb2 : ∀ b ∈ Z.set k ((z + 1) % 256), 0 ≤ b ∧ b < 256 := fun y hy => by
              rcases List.mem_or_eq_of_mem_set hy with h | h
              · exact hZb y h
              · rw [h]; omega
            obtain ⟨z1, z2⟩ := hzb
            clear hz
            go_wp2
            go_roundw
            case rel => exact ⟨k + 1, Z.set k ((z + 1) % 256), by omega, by go_num, hZl2, hZb2, hst, hBr.setCell (p := ⟨g, k, none⟩) (Nat.le_trans hs24 hgb) _⟩
            case measure => simp [intOf]; omega
          · obtain rfl : k = np := by omega
            have ko : (convert 22 9 (.slice Ao n co)).run Try.prog wr = .ok (.string (strI b)) wr := conv_str HN.out HBy.out (hO2.below hBr)
            have kb : (convert 22 9 (.slice A n c)).run Try.prog wr = .ok (.string (strI b)) wr := conv_str HN.out HBy.out (hR.below (hW2.trans (hBr.mono hW2.size)))
            have ks := str_same b
            have hfin := hW2.trans (hBr.mono hW2.size)
            have s1 := hTb.below hBr hTb.lt
            have s2 := hXb.below hBr hXb.lt
            have a0 := s1.cell 0
            have a1 := s1.cell 1
            have a2 := s1.cell 2
            have c0 := s2.cell 0
            have c1 := s2.cell 1
            have c2 := s2.cell 2
            have hds := dsame_yes neg e At L m ct lc l HL.out (by omega) wr ((hT2.below hBr).more hBr.size) ((hL.below hfin).more hfin.size)
            clear hrow hBr hR hO2 hT2 hL hTb hXb s1 s2 hZl hZb
            go_wp2_with fail
            refine hds.mono ?_
            rintro en w9 ⟨rfl, hb9⟩
            clear hds
            go_wp2
            go_ret
            exact ⟨rfl, hfin.trans (hb9.mono hfin.size)⟩
theorem walk (A : Option Addr) (n c : Nat) (b : List Int) (hn : b.length = n) (hb : ∀ x ∈ b, 0 ≤ x ∧ x < 256) (x : Nat) (hx : x < 18446744073709551616) (s : Int) (neg : Bool) (L : Option Addr) (m lc : Nat) (l : List Int) (hl : l.length = m) (hl0 : ∀ x ∈ l, 0 ≤ x) (hl1 : ∀ x ∈ l, x < 4294967296) (e : Int) (w : World) (hR : Reads w w.heap.size 1 A n (u8s b)) (hL : Reads w w.heap.size 1 L m (u32s l)) :
    Calls Try.prog 3 #[.slice A n c, .int .u64 x, .int .i64 s, dy neg L m lc e] w fun en w' => en = .returned (.bool true) ∧ Below w.heap.size w w' := by
  rcases Nat.lt_or_ge 5000 n with h | h
  · exact out_long A n c x s neg L m lc e (decide_eq_true (by omega)) w
  · have hd : decide ((5000 : Int) < n) = false := decide_eq_false (by omega)
    cases hg : greatB m e
    · have hm : m ≤ 42 := by
        unfold greatB at hg
        simp only [Bool.or_eq_false_iff, decide_eq_false_iff_not] at hg
        omega
      exact main A n c b hn hb x hx s neg L m lc l hl hl0 hl1 e h hd hm hg w hR hL
    · exact out_great A n c x s neg L m lc e hd hg w
end Go.Proofs.Ytekeenldlkkljaa.FieldPuts
