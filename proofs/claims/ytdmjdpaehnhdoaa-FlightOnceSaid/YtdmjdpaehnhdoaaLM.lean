/- Flight: loads that may be: the program's answer -/
import Derived.Test.YtdmjdpaehnhdoaaLL
import Derived.Test.YtdmjdpaehnhdoaaLH
namespace Go.Proofs.Ytdmjdpaehnhdoaa
open Go.ChangeShapes Go.WideShapes Go.ChangeAt Go.RowKit
set_option linter.unusedSimpArgs false
set_option linter.unusedVariables false
def oneF (P : Int) (x : En) : Prop := P < x.nu ∧ x.nu ≤ 1048575 ∧ 0 ≤ x.ep ∧ x.ep ≤ 65535 ∧ 1 ≤ x.cp ∧ x.cp ≤ 16 ∧ mayM x.give = true
def lastN (l : List En) : Nat → Int
  | 0 => -1
  | k + 1 => match l[k]? with
    | some x => x.nu
    | none => -1
/-- Loads that may be. -/
def goodF (l : List En) : Prop := ∀ k x, l[k]? = some x → oneF (lastN l k) x
def ChkF (l : List En) (E : Int) : Prop := (16 < l.length ∧ E = 4) ∨ (l.length ≤ 16 ∧ goodF l ∧ E = 0) ∨ (l.length ≤ 16 ∧ ¬ goodF l ∧ E = 8)
set_option maxRecDepth 100000 in
set_option maxHeartbeats 8000000 in
theorem fcheck_any (A : Option Addr) (n c : Nat) (l : List En) (hm : n ≤ maxLen) (w : World) (h1 : Ens w w.heap.size A n l) : Calls Try.prog 20 #[.slice A n c] w fun en w' => ∃ E, en = .returned (.int .i64 E) ∧ ChkF l E ∧ Below w.heap.size w w' := by
  have gln := Lib.hid (ens_len h1)
  by_cases hb : 16 < n
  · have d5 : decide ((16 : Int) < n) = true := decide_eq_true (by omega)
    have d6 : decide (16 < n) = true := decide_eq_true hb
    have g4 : Hid (ChkF l 4) := Lib.hid (.inl ⟨by rw [gln.out]; exact hb, rfl⟩)
    clear h1 hb hm
    go_enter Try.func20, Try.ntmps20
    go_wp2
    go_ret
    exact ⟨4, rfl, g4.out, Below.refl _ _⟩
  have gn : Hid (l.length ≤ 16) := Lib.hid (by rw [gln.out]; omega)
  have hn : n ≤ 16 := by omega
  have d5 : decide ((16 : Int) < n) = false := decide_eq_false (by omega)
  have d6 : decide (16 < n) = false := decide_eq_false hb
  have hB0 := Below.refl w.heap.size w
  clear hb
  go_enter Try.func20, Try.ntmps20
  go_wp2
  go_loopw [3, 11] (fun o t wr => ∃ (k : Nat) (P : Int), k ≤ n ∧ o = .int .i64 P ∧ t = .int .i64 (k : Int) ∧ Hid (P = lastN l k) ∧ Hid (∀ j x, j < k → l[j]? = some x → oneF (lastN l j) x) ∧ Below w.heap.size w wr) (fun _ t _ => n - (intOf t).toNat)
  case atStart => exact ⟨0, -1, Nat.zero_le _, rfl, rfl, Lib.hid rfl, Lib.hid (fun j x h => by omega), hB0⟩
  case round =>
    clear hB0
    obtain ⟨k, P, hk, rfl, rfl, gP, h0, hB⟩ := hrel
    by_cases hlt : k < n
    · obtain ⟨ad, nu, ep, cp, ag0, aX0, an0, ac0, ae0, ag1, aX1, an1, ac1, ae1, ag2, aX2, an2, ac2, ae2, ag3, aX3, an3, ac3, ae3, m, rfl, hb1, hl1, hx1, hrel1⟩ := ens_rel h1 hlt
      obtain ⟨a0, a1, a2, a3, a4, a5, a6, a7, a8, a9, a10, a11, a12, a13, a14⟩ := (hrel1 wr hB).2
      have i1 : (0 : Int) ≤ k := by omega
      have i2 : (k : Int) < n := by omega
      have gbad : Hid (¬ oneF P ⟨nu, ep, cp, m⟩ → ChkF l 8) := Lib.hid (fun h => .inr (.inr ⟨gn.out, fun hg => h (by rw [gP.out]; exact hg k _ hl1), rfl⟩))
      have hB1 : Below w.heap.size w (wr.alloc (.cells #[.int .i64 nu, .int .i64 ep, .int .i64 cp, .bool ag0, .slice aX0 an0 ac0, .int .i64 ae0, .bool ag1, .slice aX1 an1 ac1, .int .i64 ae1, .bool ag2, .slice aX2 an2 ac2, .int .i64 ae2, .bool ag3, .slice aX3 an3 ac3, .int .i64 ae3] 40)) := hB.alloc hB.size _
      have hrd : RdM (wr.alloc (.cells #[.int .i64 nu, .int .i64 ep, .int .i64 cp, .bool ag0, .slice aX0 an0 ac0, .int .i64 ae0, .bool ag1, .slice aX1 an1 ac1, .int .i64 ae1, .bool ag2, .slice aX2 an2 ac2, .int .i64 ae2, .bool ag3, .slice aX3 an3 ac3, .int .i64 ae3] 40)) (wr.alloc (.cells #[.int .i64 nu, .int .i64 ep, .int .i64 cp, .bool ag0, .slice aX0 an0 ac0, .int .i64 ae0, .bool ag1, .slice aX1 an1 ac1, .int .i64 ae1, .bool ag2, .slice aX2 an2 ac2, .int .i64 ae2, .bool ag3, .slice aX3 an3 ac3, .int .i64 ae3] 40)).heap.size ag0 aX0 an0 ac0 ae0 ag1 aX1 an1 ac1 ae1 ag2 aX2 an2 ac2 ae2 ag3 aX3 an3 ac3 ae3 m := (hrel1 _ hB1).1
      have gl1 := Lib.hid hl1
      clear hrel1 hx1 h1 hl1 hb1
      by_cases c0 : nu ≤ P
      · have f0 : decide (nu ≤ P) = true := decide_eq_true c0
        have gd := Lib.hid (gbad.out (by unfold oneF; simp only; omega))
        clear c0 hrd gbad h0
        go_wp2
        go_ret
        exact ⟨8, rfl, gd.out, hB1⟩
      have f0 : decide (nu ≤ P) = false := decide_eq_false c0
      by_cases c1 : (1048575 : Int) < nu
      · have f1 : decide ((1048575 : Int) < nu) = true := decide_eq_true c1
        have gd := Lib.hid (gbad.out (by unfold oneF; simp only; omega))
        clear c1 hrd gbad h0
        go_wp2
        go_ret
        exact ⟨8, rfl, gd.out, hB1⟩
      have f1 : decide ((1048575 : Int) < nu) = false := decide_eq_false c1
      by_cases c2 : ep < 0
      · have f2 : decide (ep < 0) = true := decide_eq_true c2
        have gd := Lib.hid (gbad.out (by unfold oneF; simp only; omega))
        clear c2 hrd gbad h0
        go_wp2
        go_ret
        exact ⟨8, rfl, gd.out, hB1⟩
      have f2 : decide (ep < 0) = false := decide_eq_false c2
      by_cases c3 : (65535 : Int) < ep
      · have f3 : decide ((65535 : Int) < ep) = true := decide_eq_true c3
        have gd := Lib.hid (gbad.out (by unfold oneF; simp only; omega))
        clear c3 hrd gbad h0
        go_wp2
        go_ret
        exact ⟨8, rfl, gd.out, hB1⟩
      have f3 : decide ((65535 : Int) < ep) = false := decide_eq_false c3
      by_cases c4 : cp < 1
      · have f4 : decide (cp < 1) = true := decide_eq_true c4
        have gd := Lib.hid (gbad.out (by unfold oneF; simp only; omega))
        clear c4 hrd gbad h0
        go_wp2
        go_ret
        exact ⟨8, rfl, gd.out, hB1⟩
      have f4 : decide (cp < 1) = false := decide_eq_false c4
      by_cases c5 : (16 : Int) < cp
      · have f5 : decide ((16 : Int) < cp) = true := decide_eq_true c5
        have gd := Lib.hid (gbad.out (by unfold oneF; simp only; omega))
        clear c5 hrd gbad h0
        go_wp2
        go_ret
        exact ⟨8, rfl, gd.out, hB1⟩
      have f5 : decide ((16 : Int) < cp) = false := decide_eq_false c5
      obtain ⟨Q, hQ⟩ : ∃ Q, mayM m = Q := ⟨_, rfl⟩
      have hc := mcheck_any ag0 aX0 an0 ac0 ae0 ag1 aX1 an1 ac1 ae1 ag2 aX2 an2 ac2 ae2 ag3 aX3 an3 ac3 ae3 m _ hrd Q hQ
      cases Q with
      | false =>
        have gd := Lib.hid (gbad.out (by unfold oneF; simp only [hQ]; simp))
        clear c0 c1 c2 c3 c4 c5 hrd gbad h0 hQ
        go_wp2_with (go_at_call 32; refine hc.mono ?_; rintro en w6 ⟨rfl, hb6⟩)
        go_ret
        exact ⟨8, rfl, gd.out, hB1.trans (hb6.mono hB1.size)⟩
      | true =>
        have h0' : Hid (∀ j x, j < k + 1 → l[j]? = some x → oneF (lastN l j) x) := Lib.hid (fun j x hj hx => by
          rcases Nat.lt_or_ge j k with h | h
          · exact h0.out j x h hx
          · obtain rfl : j = k := by omega
            rw [gl1.out] at hx
            injection hx with hx
            subst hx
            rw [← gP.out]
            exact ⟨by simp only; omega, by simp only; omega, by simp only; omega, by simp only; omega, by simp only; omega, by simp only; omega, hQ⟩)
        have gP' : Hid (nu = lastN l (k + 1)) := Lib.hid (by simp [lastN, gl1.out])
        have kb := Blk.new wr 40 #[.int .i64 nu, .int .i64 ep, .int .i64 cp, .bool ag0, .slice aX0 an0 ac0, .int .i64 ae0, .bool ag1, .slice aX1 an1 ac1, .int .i64 ae1, .bool ag2, .slice aX2 an2 ac2, .int .i64 ae2, .bool ag3, .slice aX3 an3 ac3, .int .i64 ae3]
        clear c0 c1 c2 c3 c4 c5 hrd gbad h0 hQ
        go_wp2_with (go_at_call 32; refine hc.mono ?_; rintro en w6 ⟨rfl, hb6⟩; have q0 := (kb.below hb6 kb.lt).cell 0; simp only [List.getElem?_toArray, List.getElem?_cons_zero] at q0)
        go_roundw
        case rel => exact ⟨k + 1, nu, by omega, rfl, by go_num, gP', h0', hB1.trans (hb6.mono hB1.size)⟩
        case measure => simp [intOf]; omega
    · obtain rfl : k = n := by omega
      have gd : Hid (ChkF l 0) := Lib.hid (.inr (.inl ⟨gn.out, fun j x hx => h0.out j x (by rw [← gln.out]; exact (List.getElem?_eq_some_iff.1 hx).1) hx, rfl⟩))
      clear h0 h1
      go_wp2
      go_ret
      exact ⟨0, rfl, gd.out, hB⟩
end Go.Proofs.Ytdmjdpaehnhdoaa
