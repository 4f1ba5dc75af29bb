/- Field: what was put is taken: of lists, and the contract of Dyad on what was put; the program's Same. -/
import Derived.Test.YtekeenldlkkljaaV
import Derived.Test.YtekeenldlkkljaaF
namespace Go.Proofs.Ytekeenldlkkljaa
open Go.ChangeShapes Go.WideShapes Go.ChangeAt Go.RowKit
set_option linter.unusedSimpArgs false
set_option linter.unusedVariables false
theorem part_at {L pre suf : List Int} {p x s : Nat} (h : L = pre ++ (digs x s ++ suf)) (hp : pre.length = p) : numI ((L.drop p).take s) = ((x % 256 ^ s : Nat) : Int) := by
  rw [h, List.drop_left' hp, List.take_left' (digs_len s x), numI_digs]
theorem flat_map_split (l : List Int) (k : Nat) (hk : k < l.length) : flat (l.map (fun x => (x.toNat, 4))) = flat ((l.take k).map (fun x => (x.toNat, 4))) ++ (digs (l.getD k 0).toNat 4 ++ flat ((l.drop (k + 1)).map (fun x => (x.toNat, 4)))) := by
  have e : l = l.take k ++ (l.getD k 0 :: l.drop (k + 1)) := by
    conv => lhs; rw [← List.take_append_drop k l]
    congr 1
    rw [List.drop_eq_getElem_cons hk, List.getD_eq_getElem?_getD, List.getElem?_eq_getElem hk]
    rfl
  conv => lhs; rw [e]
  rw [List.map_append, flat_app, List.map_cons, flat]
theorem flat_map_len (l : List Int) : (flat (l.map (fun x => (x.toNat, 4)))).length = 4 * l.length := by rw [flat_len, total_map]
section
variable {L pre suf l : List Int} {p m : Nat} {neg : Bool} {e : Nat}
theorem back_eq (hL : L = pre ++ (flat (ptsD neg l (e : Int)) ++ suf)) : L = pre ++ (digs (if neg then 1 else 0) 1 ++ (digs e 2 ++ (digs l.length 1 ++ (flat (l.map (fun x => (x.toNat, 4))) ++ suf)))) := by
  rw [hL]
  unfold ptsD
  simp only [flat, Int.toNat_natCast, List.append_assoc]
theorem back_N (hL : L = pre ++ (flat (ptsD neg l (e : Int)) ++ suf)) (hp : pre.length = p) : vN L p = if neg then 1 else 0 := by
  have := part_at (back_eq hL) hp
  unfold vN
  rw [this]
  cases neg <;> rfl
theorem back_X (hL : L = pre ++ (flat (ptsD neg l (e : Int)) ++ suf)) (hp : pre.length = p) (he : e < 65536) : vX L p = (e : Int) := by
  have h := back_eq hL
  rw [← List.append_assoc] at h
  have := part_at h (p := p + 1) (by rw [List.length_append, digs_len, hp])
  unfold vX
  rw [this, Nat.mod_eq_of_lt he]
theorem back_M (hL : L = pre ++ (flat (ptsD neg l (e : Int)) ++ suf)) (hp : pre.length = p) (hm : l.length < 256) : vM L p = l.length := by
  have h := back_eq hL
  rw [← List.append_assoc, ← List.append_assoc] at h
  have := part_at h (p := p + 3) (by rw [List.length_append, List.length_append, digs_len, digs_len, hp])
  unfold vM
  rw [this, Nat.mod_eq_of_lt hm]
  rfl
theorem back_limb (hL : L = pre ++ (flat (ptsD neg l (e : Int)) ++ suf)) (hp : pre.length = p) (h0 : ∀ x ∈ l, 0 ≤ x) (h1 : ∀ x ∈ l, x < 4294967296) (k : Nat) (hk : k < l.length) : limbAt L p k = l.getD k 0 := by
  have h := back_eq hL
  rw [flat_map_split l k hk] at h
  have e2 : L = (pre ++ (digs (if neg then 1 else 0) 1 ++ (digs e 2 ++ (digs l.length 1 ++ flat ((l.take k).map (fun x => (x.toNat, 4))))))) ++ (digs (l.getD k 0).toNat 4 ++ (flat ((l.drop (k + 1)).map (fun x => (x.toNat, 4))) ++ suf)) := by
    rw [h]
    simp only [List.append_assoc]
  have hlen : (pre ++ (digs (if neg then 1 else 0) 1 ++ (digs e 2 ++ (digs l.length 1 ++ flat ((l.take k).map (fun x => (x.toNat, 4))))))).length = p + 4 + 4 * k := by
    simp only [List.length_append, digs_len, flat_map_len, List.length_take, hp]
    omega
  have := part_at e2 hlen
  unfold limbAt
  have hmem : l.getD k 0 ∈ l := by rw [List.getD_eq_getElem?_getD, List.getElem?_eq_getElem hk]; exact List.getElem_mem _
  have a := h0 _ hmem
  have b := h1 _ hmem
  rw [this, Nat.mod_eq_of_lt (by omega)]
  omega
theorem back_limbs (hL : L = pre ++ (flat (ptsD neg l (e : Int)) ++ suf)) (hp : pre.length = p) (h0 : ∀ x ∈ l, 0 ≤ x) (h1 : ∀ x ∈ l, x < 4294967296) : limbsOf L p l.length = l := by
  refine List.ext_getElem (limbs_len _ _ _) fun k h2 h3 => ?_
  have := back_limb hL hp h0 h1 k h3
  simp only [limbsOf, List.getElem_map, List.getElem_range]
  rw [this, List.getD_eq_getElem?_getD, List.getElem?_eq_getElem h3]
  rfl
theorem back_E (hL : L = pre ++ (flat (ptsD neg l (e : Int)) ++ suf)) (hp : pre.length = p) (h0 : ∀ x ∈ l, 0 ≤ x) (h1 : ∀ x ∈ l, x < 4294967296) (hd : mayD neg l (e : Int) = true) (he : e < 65536) (hm : l.length < 256) : dyE L (p : Int) = 0 := by
  have hlen : L.length = p + (4 + 4 * l.length) + suf.length := by rw [hL, List.length_append, List.length_append, flat_len, total_pts, hp]; omega
  unfold dyE
  simp only [Int.toNat_natCast, back_N hL hp, back_X hL hp he, back_M hL hp hm, back_limbs hL hp h0 h1]
  rw [if_neg (by unfold rdrE; rw [if_pos ⟨by omega, by omega⟩]; decide), if_neg (by omega), if_neg (by omega)]
  have e1 : ((if neg = true then (1 : Int) else 0) == 1) = neg := by cases neg <;> rfl
  have e2 : decide (1 < (if neg = true then (1 : Int) else 0)) = false := by cases neg <;> rfl
  rw [e1, e2, hd]
  rfl
end
/-- Dyad on bytes behind which a dyad was put. -/
theorem dyad_back (A : Option Addr) (n c : Nat) (L pre suf l : List Int) (neg : Bool) (e p : Nat) (hn : L.length = n) (hb : ∀ b ∈ L, 0 ≤ b ∧ b < 256) (hm : n ≤ 100000) (hnc : n ≤ c) (hL : L = pre ++ (flat (ptsD neg l (e : Int)) ++ suf)) (hp : pre.length = p) (h0 : ∀ x ∈ l, 0 ≤ x) (h1 : ∀ x ∈ l, x < 4294967296) (hd : mayD neg l (e : Int) = true) (he : e < 65536) (hml : l.length < 256) (w : World) (hR : Reads w w.heap.size 1 A n (u8s L)) :
    Calls Try.prog 17 #[rst A n c (p : Int)] w fun en w' => ∃ Al cl, en = .returned (.tuple #[rst A n c ((p + (4 + 4 * l.length) : Nat) : Int), dy neg Al l.length cl (e : Int), .int .i64 0]) ∧ w'.ownsRow w.heap.size 50 1 (.slice Al l.length cl) l.length (u32s l) ∧ Below w.heap.size w w' := by
  refine (dyad_any A n c L hn hb hm hnc (p : Int) 0 (back_E hL hp h0 h1 hd he hml) w hR).mono ?_
  rintro en w' ⟨hB, ⟨h, _⟩ | ⟨_, Al, cl, rfl, ho⟩⟩
  · exact absurd h (by decide)
  · simp only [Int.toNat_natCast, back_N hL hp, back_X hL hp he, back_M hL hp hml, back_limbs hL hp h0 h1] at ho ⊢
    have e1 : ((if neg = true then (1 : Int) else 0) == 1) = neg := by cases neg <;> rfl
    rw [e1]
    exact ⟨Al, cl, by rw [show (p : Int) + 4 + 4 * (l.length : Int) = ((p + (4 + 4 * l.length) : Nat) : Int) by omega], ho, hB⟩
set_option maxHeartbeats 4000000 in
theorem equal_yes (A A2 : Option Addr) (n c c2 B B2 : Nat) (l : List Int) (hn : l.length = n) (hm : n ≤ 100) (w : World) (hR : Reads w B 1 A n (u32s l)) (hR2 : Reads w B2 1 A2 n (u32s l)) :
    Calls Try.prog 38 #[.slice A n c, .slice A2 n c2] w fun en w' => en = .returned (.bool true) ∧ ∃ m, w' = w.drewN m := by
  go_enter Try.func38, Try.ntmps38
  go_wp2
  go_loopw [13] (fun i wr => ∃ k m : Nat, k ≤ n ∧ i = .int .i64 k ∧ wr = w.drewN m) (fun i wr => n - (intOf i).toNat)
  case atStart => exact ⟨0, 0, by omega, rfl, rfl⟩
  case round =>
    obtain ⟨k, m, hk, rfl, rfl⟩ := hrel
    by_cases hlt : k < n
    · obtain ⟨ad, rfl, hab, cA⟩ := at_u32 hn hR hlt
      obtain ⟨ad2, rfl, hab2, cA2⟩ := at_u32 hn hR2 hlt
      have i1 : (0 : Int) ≤ k := by omega
      have i2 : (k : Int) < n := by omega
      generalize l.getD k 0 = x at *
      go_wp2_with fail
      go_quiet (fail)
      go_wp2
      go_roundw
      case rel => exact ⟨k + 1, _, by omega, by go_num, rfl⟩
      case measure => simp [intOf]; omega
    · obtain rfl : k = n := by omega
      clear hR hR2 hn
      go_wp2
      go_ret
      exact ⟨rfl, m, rfl⟩
theorem limbs_same (A A2 : Option Addr) (n c c2 B B2 : Nat) (l : List Int) (hn : l.length = n) (hm : n ≤ 100) (w : World) (hR : Reads w B 1 A n (u32s l)) (hR2 : Reads w B2 1 A2 n (u32s l)) :
    Calls Try.prog 36 #[.slice A n c, .slice A2 n c2] w fun en w' => en = .returned (.bool true) ∧ ∃ m, w' = w.drewN m := by
  go_enter Try.func36, Try.ntmps36
  go_wp2_with fail
  refine (equal_yes A A2 n c c2 B B2 l hn hm w hR hR2).mono ?_
  rintro en w1 ⟨rfl, mm, rfl⟩
  clear hR hR2 hn
  go_wp2
  go_ret
  exact ⟨rfl, mm, rfl⟩
set_option maxHeartbeats 4000000 in
theorem psame_yes (neg : Bool) (e : Int) (A A2 : Option Addr) (n c c2 : Nat) (l : List Int) (hn : l.length = n) (hm : n ≤ 100) (w : World) (hR : Reads w w.heap.size 1 A n (u32s l)) (hR2 : Reads w w.heap.size 1 A2 n (u32s l)) :
    Calls Try.prog 24 #[dy neg A n c e, dy neg A2 n c2 e] w fun en w' => en = .returned (.bool true) ∧ Below w.heap.size w w' := by
  have hs := fun w h h2 => limbs_same A A2 n c c2 w.heap.size w.heap.size l hn hm w h h2
  have hB : Below w.heap.size w ((w.alloc (.cells #[.bool neg, .slice A n c, .int .i64 e] 26)).alloc (.cells #[.bool neg, .slice A2 n c2, .int .i64 e] 26)) := ((Below.refl _ w).alloc (Nat.le_refl _) _).alloc (by rw [World.size_alloc]; omega) _
  have d1 : (neg == neg) = true := by simp
  have d2 : (e == e) = true := by simp
  have hR1 := (hR.below hB).more hB.size
  have hR3 := (hR2.below hB).more hB.size
  clear hR hR2 hn
  go_enter Try.func24, Try.ntmps24
  go_wp2_with fail
  refine (hs _ hR1 hR3).mono ?_
  rintro en w1 ⟨rfl, mm, rfl⟩
  clear hs hR1 hR3
  go_wp2
  go_ret
  exact ⟨rfl, below_drewN hB _⟩
end Go.Proofs.Ytekeenldlkkljaa
