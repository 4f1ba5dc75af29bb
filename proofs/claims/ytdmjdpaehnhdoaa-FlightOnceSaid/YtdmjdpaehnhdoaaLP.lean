/- Flight: the reference's asked and Place -/
import Derived.Test.YtdmjdpaehnhdoaaLO
import Derived.Test.YtdmjdpaehnhdoaaLN
namespace Go.Proofs.Ytdmjdpaehnhdoaa
open Go.ChangeShapes Go.WideShapes Go.ChangeAt Go.RowKit
set_option linter.unusedSimpArgs false
set_option linter.unusedVariables false
/-- What asked tells. -/
def AskF (l : List En) (N E : Int) : Prop := (ChkF l E ∧ E ≠ 0) ∨ (ChkF l 0 ∧ ¬ (0 ≤ N ∧ N ≤ 1048575) ∧ E = 2) ∨ (ChkF l 0 ∧ (0 ≤ N ∧ N ≤ 1048575) ∧ E = 0)
def PlcF (l : List En) (N a : Int) : Prop := (∃ k : Nat, a = k ∧ k < l.length ∧ (∀ x : En, l[k]? = some x → x.nu = N) ∧ ∀ (j : Nat) (x : En), j < k → l[j]? = some x → x.nu ≠ N) ∨ (a = -1 ∧ ∀ (j : Nat) (x : En), l[j]? = some x → x.nu ≠ N)
set_option maxRecDepth 100000 in
set_option maxHeartbeats 16000000 in
theorem rasked_any (A : Option Addr) (n c : Nat) (l : List En) (hm : n ≤ maxLen) (w : World) (h : Ens w w.heap.size A n l) (N : Int) : Calls Try.prog 36 #[.slice A n c, .int .i64 N] w fun en w' => ∃ E, en = .returned (.int .i64 E) ∧ AskF l N E ∧ Below w.heap.size w w' := by
  have hc := rfcheck_any A n c l hm w h
  clear h
  go_enter Try.func36, Try.ntmps36
  go_wp2_with fail
  refine hc.mono ?_
  rintro en w1 ⟨E, rfl, hE, hb1⟩
  rcases hE.has with ⟨rfl, hE2⟩ | ⟨rfl, hE2, hE3⟩ | ⟨rfl, hE2, hE3⟩
  · have g := Lib.hid hE
    clear hE hE2 hc
    go_wp2
    go_ret
    exact ⟨4, rfl, .inl ⟨g.out, by decide⟩, hb1⟩
  · have g := Lib.hid hE
    clear hE hE2 hE3 hc
    by_cases c0 : N < 0
    · have f0 : decide (N < 0) = true := decide_eq_true c0
      have gd : Hid (¬ (0 ≤ N ∧ N ≤ 1048575)) := Lib.hid (by omega)
      clear c0
      go_wp2
      go_ret
      exact ⟨2, rfl, .inr (.inl ⟨g.out, gd.out, rfl⟩), hb1⟩
    have f0 : decide (N < 0) = false := decide_eq_false c0
    by_cases c1 : (1048575 : Int) < N
    · have f1 : decide ((1048575 : Int) < N) = true := decide_eq_true c1
      have gd : Hid (¬ (0 ≤ N ∧ N ≤ 1048575)) := Lib.hid (by omega)
      clear c0 c1
      go_wp2
      go_ret
      exact ⟨2, rfl, .inr (.inl ⟨g.out, gd.out, rfl⟩), hb1⟩
    have f1 : decide ((1048575 : Int) < N) = false := decide_eq_false c1
    have gd : Hid (0 ≤ N ∧ N ≤ 1048575) := Lib.hid (by omega)
    clear c0 c1
    go_wp2
    go_ret
    exact ⟨0, rfl, .inr (.inr ⟨g.out, gd.out, rfl⟩), hb1⟩
  · have g := Lib.hid hE
    clear hE hE2 hE3 hc
    go_wp2
    go_ret
    exact ⟨8, rfl, .inl ⟨g.out, by decide⟩, hb1⟩
set_option maxRecDepth 100000 in
set_option maxHeartbeats 8000000 in
theorem rplace_any (A : Option Addr) (n c : Nat) (l : List En) (hn : n ≤ 16) (w : World) (h : Ens w w.heap.size A n l) (N : Int) : Calls Try.prog 38 #[.slice A n c, .int .i64 N] w fun en w' => ∃ a, en = .returned (.int .i64 a) ∧ PlcF l N a ∧ Below w.heap.size w w' := by
  have gln := Lib.hid (ens_len h)
  have hB0 := Below.refl w.heap.size w
  have ge := Lib.hid h
  clear h
  go_enter Try.func38, Try.ntmps38
  go_wp2
  go_loopw [5] (fun t wr => ∃ (k : Nat), k ≤ n ∧ t = .int .i64 (k : Int) ∧ Hid (∀ j x, j < k → l[j]? = some x → x.nu ≠ N) ∧ Below w.heap.size w wr) (fun t _ => n - (intOf t).toNat)
  case atStart => exact ⟨0, Nat.zero_le _, rfl, Lib.hid (fun j x hj => by omega), hB0⟩
  case round =>
    clear hB0
    obtain ⟨k, hk, rfl, gI, hB⟩ := hrel
    by_cases hlt : k < n
    · obtain ⟨ad, nu, ep, cp, ag0, aX0, an0, ac0, ae0, ag1, aX1, an1, ac1, ae1, ag2, aX2, an2, ac2, ae2, ag3, aX3, an3, ac3, ae3, m, rfl, hb1, hl1, hx1, hrel1⟩ := ens_rel ge.out hlt
      obtain ⟨a0, a1, a2, a3, a4, a5, a6, a7, a8, a9, a10, a11, a12, a13, a14⟩ := (hrel1 wr hB).2
      have i1 : (0 : Int) ≤ k := by omega
      have i2 : (k : Int) < n := by omega
      obtain ⟨Q, hQ⟩ : ∃ Q, (nu == N) = Q := ⟨_, rfl⟩
      have gQ : Hid (Q = decide (nu = N)) := Lib.hid (by rw [← hQ, Bool.beq_eq_decide_eq])
      have gl1 := Lib.hid hl1
      clear hrel1 hx1 hl1 hb1
      cases Q with
      | true =>
        have gA : Hid (PlcF l N k) := Lib.hid (.inl ⟨k, rfl, by rw [gln.out]; exact hlt, fun x hx => by
          rw [gl1.out] at hx
          injection hx with hx
          subst hx
          exact of_decide_eq_true gQ.out.symm, gI.out⟩)
        clear gI gQ gl1
        go_wp2
        go_ret
        exact ⟨k, rfl, gA.out, hB⟩
      | false =>
        have gI' := Lib.hid (fun j x (hj : j < k + 1) (hx : l[j]? = some x) => show x.nu ≠ N from by
          rcases Nat.lt_or_ge j k with h1 | h1
          · exact gI.out j x h1 hx
          · obtain rfl : j = k := by omega
            rw [gl1.out] at hx
            injection hx with hx
            subst hx
            exact of_decide_eq_false gQ.out.symm)
        clear gI gQ gl1
        go_wp2
        go_roundw
        case rel => exact ⟨k + 1, by omega, by go_num, gI', hB⟩
        case measure => simp [intOf]; omega
    · obtain rfl : k = n := by omega
      have gA : Hid (PlcF l N (-1)) := Lib.hid (.inr ⟨rfl, fun j x hx => gI.out j x (by rw [← gln.out]; exact (List.getElem?_eq_some_iff.1 hx).1) hx⟩)
      clear gI ge
      go_wp2
      go_ret
      exact ⟨-1, rfl, gA.out, hB⟩
end Go.Proofs.Ytdmjdpaehnhdoaa
