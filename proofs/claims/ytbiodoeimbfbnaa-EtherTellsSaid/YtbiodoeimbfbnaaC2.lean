/- Ether: lists of copies checked (the program's and the reference's). -/
import Derived.Test.YtbiodoeimbfbnaaC
namespace Go.Proofs.Ytbiodoeimbfbnaa
open Go.ChangeShapes Go.WideShapes Go.ChangeAt Go.RowKit
set_option linter.unusedSimpArgs false
set_option linter.unusedVariables false
theorem check1_any (num dn : Int) (X : Option Addr) (n d : Nat) (sp : Bool) (R : Bool) (hR : mayC num dn n = R) (w : World) :
    Calls Try.prog 29 #[.agg #[.int .i64 num, .int .i64 dn, .slice X n d, .bool sp]] w fun en w' => en = .returned (.bool (!R)) ∧ Below w.heap.size w w' := by
  have hB := (Below.refl w.heap.size w).alloc (Nat.le_refl _) (.cells #[.int .i64 num, .int .i64 dn, .slice X n d, .bool sp] 25)
  have h := may_any num dn X n d sp R hR (w.alloc (.cells #[.int .i64 num, .int .i64 dn, .slice X n d, .bool sp] 25))
  clear hR
  go_enter Try.func29, Try.ntmps29
  go_wp2_with (go_at_call 21; (with_reducible refine h.mono ?_); rintro en w1 ⟨rfl, hb⟩)
  go_ret
  exact ⟨rfl, hB.trans (hb.mono hB.size)⟩
/-- The first copy that may not be. -/
def badI : List Cp → Int
  | [] => -1
  | c :: r => if mayOf c = true then (if badI r = -1 then -1 else badI r + 1) else 0
theorem badI_ge : ∀ l, -1 ≤ badI l
  | [] => by decide
  | c :: r => by have := badI_ge r; unfold badI; split <;> (try split) <;> omega
theorem badI_none : ∀ {l : List Cp}, (∀ (j : Nat) c, l[j]? = some c → mayOf c = true) → badI l = -1 ∧ l.all mayOf = true
  | [], _ => ⟨rfl, rfl⟩
  | c :: r, h => by
    have h1 := h 0 c rfl
    have h2 := badI_none (l := r) (fun j c hj => h (j + 1) c hj)
    refine ⟨by unfold badI; rw [if_pos h1, if_pos h2.1], ?_⟩
    rw [List.all_cons, h1, h2.2]; rfl
theorem badI_at : ∀ {l : List Cp} {k : Nat} {c : Cp}, l[k]? = some c → mayOf c = false → (∀ (j : Nat) c, j < k → l[j]? = some c → mayOf c = true) → badI l = (k : Int) ∧ l.all mayOf = false
  | [], _, _, h, _, _ => by simp at h
  | c :: r, 0, c', h, hm, _ => by
    have : c = c' := by simpa using h
    subst this
    refine ⟨by unfold badI; rw [if_neg (by rw [hm]; decide)]; rfl, ?_⟩
    rw [List.all_cons, hm]; rfl
  | c :: r, k + 1, c', h, hm, hall => by
    have h1 := hall 0 c (by omega) rfl
    have h2 := badI_at (l := r) (k := k) (c := c') (by simpa using h) hm (fun j c hj hc => hall (j + 1) c (by omega) (by simpa using hc))
    refine ⟨?_, by rw [List.all_cons, h2.2]; simp⟩
    unfold badI
    rw [if_pos h1, h2.1, if_neg (by omega)]
    omega
set_option maxHeartbeats 4000000 in
theorem index_any (A : Option Addr) (n c : Nat) (l : List Cp) (hm : n ≤ 10000) (F : Int) (hF : badI l = F) (w : World) (h1 : Cps w w.heap.size A n l) :
    Calls Try.prog 32 #[.slice A n c, .func (.func 29) #[] #[]] w fun en w' => en = .returned (.int .i64 F) ∧ Below w.heap.size w w' := by
  have ln := cps_len h1
  have hB0 := Below.refl w.heap.size w
  have gF := Lib.hid hF
  have gln := Lib.hid ln
  clear hF ln
  go_enter Try.func32, Try.ntmps32
  go_wp2
  go_loopw [8] (fun t wr => ∃ k : Nat, k ≤ n ∧ t = .int .i64 k ∧ Hid (∀ (j : Nat) c, j < k → l[j]? = some c → mayOf c = true) ∧ Below w.heap.size w wr) (fun t _ => n - (intOf t).toNat)
  case atStart => exact ⟨0, Nat.zero_le _, rfl, Lib.hid (fun j c h => by omega), hB0⟩
  case round =>
    obtain ⟨k, hk, rfl, h0, hB⟩ := hrel
    by_cases hlt : k < n
    · obtain ⟨ad, num, dn, txt, sp, X, m, d, rfl, hb1, hl1, hx1, hxd1, hrel1⟩ := cps_rel h1 hlt
      obtain ⟨a0, a1, a2, a3⟩ := (hrel1 wr hB).2
      obtain ⟨b, hb⟩ : ∃ b, mayC num dn m = b := ⟨_, rfl⟩
      have hc := check1_any num dn X m d sp b hb wr
      have hmo : mayOf ⟨num, dn, txt, sp⟩ = b := by unfold mayOf; rw [← hb, ← hx1]
      have i1 : (0 : Int) ≤ k := by omega
      have i2 : (k : Int) < n := by omega
      cases b
      · obtain ⟨hf, _⟩ := badI_at hl1 hmo h0.out
        obtain rfl := hf.symm.trans gF.out
        clear hl1 hx1 hrel1 hb hmo hf h0 h1 gF gln hB0
        go_wp2_with fail
        refine hc.mono ?_
        rintro en w6 ⟨rfl, hB6⟩
        replace hB := hB.trans (hB6.mono hB.size)
        clear hc hB6
        go_wp2
        go_ret
        exact ⟨rfl, hB⟩
      · have h0' : Hid (∀ (j : Nat) c, j < k + 1 → l[j]? = some c → mayOf c = true) := Lib.hid (fun j c hj hc => by
          rcases Nat.lt_or_ge j k with h | h
          · exact h0.out j c h hc
          · rw [show j = k by omega, hl1] at hc
            injection hc with hc
            rw [← hc]; exact hmo)
        clear hl1 hx1 hrel1 hb hmo h0 h1 gF gln hB0
        go_wp2_with fail
        refine hc.mono ?_
        rintro en w6 ⟨rfl, hB6⟩
        replace hB := hB.trans (hB6.mono hB.size)
        clear hc hB6
        go_wp2
        go_roundw
        case rel => exact ⟨k + 1, by omega, by go_num, h0', hB⟩
        case measure => simp [intOf] <;> omega
    · obtain rfl : k = n := by omega
      obtain ⟨hf, _⟩ := badI_none (l := l) (fun j c hj => h0.out j c (by have := (List.getElem?_eq_some_iff.1 hj).1; have := gln.out; omega) hj)
      obtain rfl := hf.symm.trans gF.out
      clear h0 h1 gF gln hf hB0
      go_wp2
      go_ret
      exact ⟨rfl, hB⟩
theorem bad_iff (l : List Cp) : decide (0 ≤ badI l) = !(l.all mayOf) := by
  by_cases h : ∀ (j : Nat) c, l[j]? = some c → mayOf c = true
  · obtain ⟨h1, h2⟩ := badI_none h
    rw [h1, h2]; rfl
  · cases hm : l.all mayOf
    · have := badI_ge l
      by_cases h2 : badI l = -1
      · exfalso
        apply h
        intro j c hj
        have : ∀ {l : List Cp}, badI l = -1 → ∀ (j : Nat) c, l[j]? = some c → mayOf c = true := by
          intro l
          induction l with
          | nil => intro _ j c hj; simp at hj
          | cons x r ih =>
            intro h3 j c hj
            unfold badI at h3
            by_cases hx : mayOf x = true
            · rw [if_pos hx] at h3
              by_cases h4 : badI r = -1
              · cases j with
                | zero => have : x = c := by simpa using hj
                          subst this; exact hx
                | succ j => exact ih h4 j c (by simpa using hj)
              · rw [if_neg h4] at h3
                have := badI_ge r
                omega
            · rw [if_neg hx] at h3
              exact absurd h3 (by decide)
        exact this h2 j c hj
      · exact decide_eq_true (by omega)
    · exfalso
      apply h
      intro j c hj
      exact List.all_eq_true.1 hm c (List.mem_of_getElem? hj)
/-- The error of copies. -/
def chkE (l : List Cp) : Int := if 16 < l.length then 4 else if l.all mayOf = true then 0 else 8
set_option maxHeartbeats 2000000 in
theorem check_any (A : Option Addr) (n c : Nat) (l : List Cp) (hm : n ≤ 10000) (E : Int) (hE : chkE l = E) (w : World) (h1 : Cps w w.heap.size A n l) :
    Calls Try.prog 17 #[.slice A n c] w fun en w' => en = .returned (.int .i64 E) ∧ Below w.heap.size w w' := by
  have ln := cps_len h1
  by_cases h16 : 16 < n
  · obtain rfl : 4 = E := by rw [← hE]; unfold chkE; rw [if_pos (by omega)]
    have d1 : decide ((16 : Int) < n) = true := decide_eq_true (by omega)
    have d2 : decide (16 < n) = true := decide_eq_true h16
    clear hE h1 ln
    go_enter Try.func17, Try.ntmps17
    go_wp2
    go_ret
    exact ⟨rfl, Below.refl _ _⟩
  · have d1 : decide ((16 : Int) < n) = false := decide_eq_false (by omega)
    have d2 : decide (16 < n) = false := decide_eq_false h16
    obtain ⟨F, hF⟩ : ∃ F, badI l = F := ⟨_, rfl⟩
    have hi := index_any A n c l hm F hF w h1
    have hbi := bad_iff l
    rw [hF] at hbi
    have hcf : Calls Try.prog 28 #[.slice A n c, .func (.func 29) #[] #[]] w fun en w' => en = .returned (.bool (decide (0 ≤ F))) ∧ Below w.heap.size w w' := by
      clear hE h1 ln hbi hF d1 d2 h16
      go_enter Try.func28, Try.ntmps28
      go_wp2_with (go_at_call 32; (with_reducible refine hi.mono ?_); rintro en w1 ⟨rfl, hb⟩)
      go_ret
      exact ⟨rfl, hb⟩
    rw [hbi] at hcf
    have hE2 : E = if l.all mayOf = true then 0 else 8 := by rw [← hE]; unfold chkE; rw [if_neg (by omega)]
    clear hE hi hbi hF h1 ln
    cases hal : l.all mayOf
    · rw [hal] at hcf hE2
      subst hE2
      clear hal
      go_enter Try.func17, Try.ntmps17
      go_wp2_with (go_at_call 28; (with_reducible refine hcf.mono ?_); rintro en w1 ⟨rfl, hb⟩)
      go_ret
      exact ⟨rfl, hb⟩
    · rw [hal] at hcf hE2
      subst hE2
      clear hal
      go_enter Try.func17, Try.ntmps17
      go_wp2_with (go_at_call 28; (with_reducible refine hcf.mono ?_); rintro en w1 ⟨rfl, hb⟩)
      go_ret
      exact ⟨rfl, hb⟩
set_option maxHeartbeats 4000000 in
theorem rcheck_any (A : Option Addr) (n c : Nat) (l : List Cp) (hm : n ≤ 10000) (E : Int) (hE : chkE l = E) (w : World) (h1 : Cps w w.heap.size A n l) :
    Calls Try.prog 18 #[.slice A n c] w fun en w' => en = .returned (.int .i64 E) ∧ Below w.heap.size w w' := by
  have ln := cps_len h1
  by_cases h16 : 16 < n
  · obtain rfl : 4 = E := by rw [← hE]; unfold chkE; rw [if_pos (by omega)]
    have d1 : decide ((16 : Int) < n) = true := decide_eq_true (by omega)
    have d2 : decide (16 < n) = true := decide_eq_true h16
    clear hE h1 ln
    go_enter Try.func18, Try.ntmps18
    go_wp2
    go_ret
    exact ⟨rfl, Below.refl _ _⟩
  · have d1 : decide ((16 : Int) < n) = false := decide_eq_false (by omega)
    have d2 : decide (16 < n) = false := decide_eq_false h16
    have gE : Hid (E = if l.all mayOf = true then 0 else 8) := Lib.hid (by rw [← hE]; unfold chkE; rw [if_neg (by omega)])
    have hB0 := Below.refl w.heap.size w
    have gln := Lib.hid ln
    clear hE ln
    go_enter Try.func18, Try.ntmps18
    go_wp2
    go_loopw [3] (fun t wr => ∃ k : Nat, k ≤ n ∧ t = .int .i64 k ∧ Hid (∀ (j : Nat) c, j < k → l[j]? = some c → mayOf c = true) ∧ Below w.heap.size w wr) (fun t _ => n - (intOf t).toNat)
    case atStart => exact ⟨0, Nat.zero_le _, rfl, Lib.hid (fun j c h => by omega), hB0⟩
    case round =>
      obtain ⟨k, hk, rfl, h0, hB⟩ := hrel
      by_cases hlt : k < n
      · obtain ⟨ad, num, dn, txt, sp, X, m, d, rfl, hb1, hl1, hx1, hxd1, hrel1⟩ := cps_rel h1 hlt
        obtain ⟨a0, a1, a2, a3⟩ := (hrel1 wr hB).2
        obtain ⟨b, hb⟩ : ∃ b, mayC num dn m = b := ⟨_, rfl⟩
        have hc := rmay_any num dn X m d sp b hb wr
        have hmo : mayOf ⟨num, dn, txt, sp⟩ = b := by unfold mayOf; rw [← hb, ← hx1]
        have i1 : (0 : Int) ≤ k := by omega
        have i2 : (k : Int) < n := by omega
        cases b
        · obtain ⟨_, hf⟩ := badI_at hl1 hmo h0.out
          have h8 := gE.out
          rw [hf] at h8
          obtain rfl : E = 8 := h8
          clear hl1 hx1 hrel1 hb hmo hf h0 h1 gE gln hB0
          go_wp2_with fail
          refine hc.mono ?_
          rintro en w6 ⟨rfl, hB6⟩
          replace hB := hB.trans (hB6.mono hB.size)
          clear hc hB6
          go_wp2
          go_ret
          exact ⟨rfl, hB⟩
        · have h0' : Hid (∀ (j : Nat) c, j < k + 1 → l[j]? = some c → mayOf c = true) := Lib.hid (fun j c hj hc => by
            rcases Nat.lt_or_ge j k with h | h
            · exact h0.out j c h hc
            · rw [show j = k by omega, hl1] at hc
              injection hc with hc
              rw [← hc]; exact hmo)
          clear hl1 hx1 hrel1 hb hmo h0 h1 gE gln hB0
          go_wp2_with fail
          refine hc.mono ?_
          rintro en w6 ⟨rfl, hB6⟩
          replace hB := hB.trans (hB6.mono hB.size)
          clear hc hB6
          go_wp2
          go_roundw
          case rel => exact ⟨k + 1, by omega, by go_num, h0', hB⟩
          case measure => simp [intOf] <;> omega
      · obtain rfl : k = n := by omega
        obtain ⟨_, hf⟩ := badI_none (l := l) (fun j c hj => h0.out j c (by have := (List.getElem?_eq_some_iff.1 hj).1; have := gln.out; omega) hj)
        have h8 := gE.out
        rw [hf] at h8
        obtain rfl : E = 0 := h8
        clear h0 h1 gE gln hf hB0
        go_wp2
        go_ret
        exact ⟨rfl, hB⟩
end Go.Proofs.Ytbiodoeimbfbnaa
