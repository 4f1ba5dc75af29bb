/- Flight: the load of a number: first, found -/
import Derived.Test.YtdmjdpaehnhdoaaLM
import Derived.Test.YtdmjdpaehnhdoaaKit9
import Derived.OwnWalk
namespace Go.Proofs.Ytdmjdpaehnhdoaa
open Go.ChangeShapes Go.WideShapes Go.ChangeAt Go.RowKit
set_option linter.unusedSimpArgs false
set_option linter.unusedVariables false
def AtF (l : List En) (N : Int) (k : Nat) : Prop := k ≤ l.length ∧ (∀ j x, j < k → l[j]? = some x → x.nu < N) ∧ ∀ x, l[k]? = some x → N ≤ x.nu
def isAt (l : List En) (N : Int) (k : Nat) : Bool := match l[k]? with
  | some x => decide (x.nu = N)
  | none => false
theorem isge (nu ep cp : Int) (ag0 : Bool) (aX0 : Option Addr) (an0 ac0 : Nat) (ae0 : Int) (ag1 : Bool) (aX1 : Option Addr) (an1 ac1 : Nat) (ae1 : Int) (ag2 : Bool) (aX2 : Option Addr) (an2 ac2 : Nat) (ae2 : Int) (ag3 : Bool) (aX3 : Option Addr) (an3 ac3 : Nat) (ae3 : Int) (N : Int) (Bx : Nat) (w : World) (hb : Bx < w.heap.size) (hc : w.cell? ⟨Bx, 0, none⟩ = some (.int .i64 N)) (Q : Bool) (hQ : decide (N ≤ nu) = Q) : Calls Try.prog 51 #[.agg #[.int .i64 nu, .int .i64 ep, .int .i64 cp, .bool ag0, .slice aX0 an0 ac0, .int .i64 ae0, .bool ag1, .slice aX1 an1 ac1, .int .i64 ae1, .bool ag2, .slice aX2 an2 ac2, .int .i64 ae2, .bool ag3, .slice aX3 an3 ac3, .int .i64 ae3], .pointer (some ⟨Bx, 0, none⟩)] w fun en w' => en = .returned (.bool Q) ∧ Below w.heap.size w w' := by
  have hB := (Below.refl w.heap.size w).alloc (Nat.le_refl _) (.cells #[.int .i64 nu, .int .i64 ep, .int .i64 cp, .bool ag0, .slice aX0 an0 ac0, .int .i64 ae0, .bool ag1, .slice aX1 an1 ac1, .int .i64 ae1, .bool ag2, .slice aX2 an2 ac2, .int .i64 ae2, .bool ag3, .slice aX3 an3 ac3, .int .i64 ae3] 40)
  go_enter Try.func51, Try.ntmps51
  go_wp2
  go_ret
  exact ⟨rfl, hB⟩
set_option maxRecDepth 100000 in
set_option maxHeartbeats 8000000 in
theorem first_any (A : Option Addr) (n c : Nat) (l : List En) (hn : n ≤ 16) (w : World) (h : Ens w w.heap.size A n l) (N : Int) (Bx : Nat) (hbx : Bx < w.heap.size) (hcx : w.cell? ⟨Bx, 0, none⟩ = some (.int .i64 N)) : Calls Try.prog 50 #[.slice A n c, .func (.func 51) #[] #[.pointer (some ⟨Bx, 0, none⟩)]] w fun en w' => ∃ k : Nat, en = .returned (.int .i64 (k : Int)) ∧ AtF l N k ∧ Below w.heap.size w w' := by
  have gln := Lib.hid (ens_len h)
  have hB0 := Below.refl w.heap.size w
  have ge := Lib.hid h
  have gcx := Lib.hid hcx
  clear h hcx
  go_enter Try.func50, Try.ntmps50
  go_wp2
  go_loopw [9] (fun t wr => ∃ (k : Nat), k ≤ n ∧ t = .int .i64 (k : Int) ∧ Hid (∀ j x, j < k → l[j]? = some x → x.nu < N) ∧ Below w.heap.size w wr) (fun t _ => n - (intOf t).toNat)
  case atStart => exact ⟨0, Nat.zero_le _, rfl, Lib.hid (fun j x hj => by omega), hB0⟩
  case round =>
    clear hB0
    obtain ⟨k, hk, rfl, gI, hB⟩ := hrel
    by_cases hlt : k < n
    · obtain ⟨ad, nu, ep, cp, ag0, aX0, an0, ac0, ae0, ag1, aX1, an1, ac1, ae1, ag2, aX2, an2, ac2, ae2, ag3, aX3, an3, ac3, ae3, m, rfl, hb1, hl1, hx1, hrel1⟩ := ens_rel ge.out hlt
      obtain ⟨a0, a1, a2, a3, a4, a5, a6, a7, a8, a9, a10, a11, a12, a13, a14⟩ := (hrel1 wr hB).2
      have i1 : (0 : Int) ≤ k := by omega
      have i2 : (k : Int) < n := by omega
      obtain ⟨Q, hQ⟩ : ∃ Q, decide (N ≤ nu) = Q := ⟨_, rfl⟩
      have hB1 : Below w.heap.size w (wr.alloc (.cells #[.int .i64 nu, .int .i64 ep, .int .i64 cp, .bool ag0, .slice aX0 an0 ac0, .int .i64 ae0, .bool ag1, .slice aX1 an1 ac1, .int .i64 ae1, .bool ag2, .slice aX2 an2 ac2, .int .i64 ae2, .bool ag3, .slice aX3 an3 ac3, .int .i64 ae3] 40)) := hB.alloc hB.size _
      have hf := isge nu ep cp ag0 aX0 an0 ac0 ae0 ag1 aX1 an1 ac1 ae1 ag2 aX2 an2 ac2 ae2 ag3 aX3 an3 ac3 ae3 N Bx (wr.alloc (.cells #[.int .i64 nu, .int .i64 ep, .int .i64 cp, .bool ag0, .slice aX0 an0 ac0, .int .i64 ae0, .bool ag1, .slice aX1 an1 ac1, .int .i64 ae1, .bool ag2, .slice aX2 an2 ac2, .int .i64 ae2, .bool ag3, .slice aX3 an3 ac3, .int .i64 ae3] 40)) (Nat.lt_of_lt_of_le hbx hB1.size) ((hB1.cell hbx).trans gcx.out) Q hQ
      have gQ := Lib.hid hQ
      have gl1 := Lib.hid hl1
      clear hrel1 hx1 hl1 hb1 hQ
      cases Q with
      | true =>
        have gA : Hid (AtF l N k) := Lib.hid ⟨by rw [gln.out]; exact hk, gI.out, fun x hx => by
          rw [gl1.out] at hx
          injection hx with hx
          subst hx
          exact of_decide_eq_true gQ.out⟩
        clear gI gQ gl1
        go_wp2_with (go_at_call 51; refine hf.mono ?_; rintro en w6 ⟨rfl, hb6⟩)
        go_ret
        exact ⟨k, rfl, gA.out, hB1.trans (hb6.mono hB1.size)⟩
      | false =>
        have gI' := Lib.hid (fun j x (hj : j < k + 1) (hx : l[j]? = some x) => show x.nu < N from by
          rcases Nat.lt_or_ge j k with h1 | h1
          · exact gI.out j x h1 hx
          · obtain rfl : j = k := by omega
            rw [gl1.out] at hx
            injection hx with hx
            subst hx
            have := of_decide_eq_false gQ.out
            simp only
            omega)
        clear gI gQ gl1
        go_wp2_with (go_at_call 51; refine hf.mono ?_; rintro en w6 ⟨rfl, hb6⟩)
        go_roundw
        case rel => exact ⟨k + 1, by omega, by go_num, gI', hB1.trans (hb6.mono hB1.size)⟩
        case measure => simp [intOf]; omega
    · obtain rfl : k = n := by omega
      have gA : Hid (AtF l N k) := Lib.hid ⟨by rw [gln.out]; exact Nat.le_refl _, gI.out, fun x hx => by
        have := (List.getElem?_eq_some_iff.1 hx).1
        rw [gln.out] at this
        omega⟩
      clear gI ge
      go_wp2
      go_ret
      exact ⟨k, rfl, gA.out, hB⟩
theorem ChkF.has {l : List En} {E : Int} (h : ChkF l E) : (E = 4 ∧ 16 < l.length) ∨ (E = 0 ∧ l.length ≤ 16 ∧ goodF l) ∨ (E = 8 ∧ l.length ≤ 16 ∧ ¬ goodF l) := by
  rcases h with ⟨h1, h2⟩ | ⟨h1, h2, h3⟩ | ⟨h1, h2, h3⟩
  · exact .inl ⟨h2, h1⟩
  · exact .inr (.inl ⟨h3, h1, h2⟩)
  · exact .inr (.inr ⟨h3, h1, h2⟩)
/-- What found tells of a number. -/
def FndF (l : List En) (N a : Int) (i : Bool) (E : Int) : Prop := (ChkF l E ∧ E ≠ 0 ∧ a = 0 ∧ i = false) ∨ (ChkF l 0 ∧ ¬ (0 ≤ N ∧ N ≤ 1048575) ∧ a = 0 ∧ i = false ∧ E = 2) ∨ (ChkF l 0 ∧ (0 ≤ N ∧ N ≤ 1048575) ∧ (∃ k : Nat, a = k ∧ AtF l N k ∧ i = isAt l N k) ∧ E = 0)
set_option maxRecDepth 100000 in
set_option maxHeartbeats 16000000 in
theorem found_any (A : Option Addr) (n c : Nat) (l : List En) (hm : n ≤ maxLen) (w : World) (h : Ens w w.heap.size A n l) (N : Int) : Calls Try.prog 31 #[.slice A n c, .int .i64 N] w fun en w' => ∃ a i E, en = .returned (.tuple #[.int .i64 a, .bool i, .int .i64 E]) ∧ FndF l N a i E ∧ Below w.heap.size w w' := by
  obtain ⟨W, hW⟩ : ∃ W, W = w.alloc (.cells #[.int .i64 N] 3) := ⟨_, rfl⟩
  have hBW : Below w.heap.size w W := by rw [hW]; exact (Below.refl _ _).alloc (Nat.le_refl _) _
  have kb : Blk W w.heap.size 3 #[.int .i64 N] := by rw [hW]; exact Blk.new w _ _
  have gln := Lib.hid (ens_len h)
  have hW1 : Ens W W.heap.size A n l := Recs.more (Recs.below h hBW) hBW.size
  have hc := fcheck_any A n c l hm W hW1
  have gh := Lib.hid h
  clear h hW1
  go_enter Try.func31, Try.ntmps31
  go_wp2_with fail
  rw [← hW]
  clear hW
  refine hc.mono ?_
  rintro en w1 ⟨E, rfl, hE, hb1⟩
  have hB1 : Below w.heap.size w w1 := hBW.trans (hb1.mono hBW.size)
  have kb1 := kb.below hb1 kb.lt
  have q0 := kb1.cell 0
  simp only [List.getElem?_toArray, List.getElem?_cons_zero] at q0
  rcases hE.has with ⟨rfl, hE2⟩ | ⟨rfl, hE2, hE3⟩ | ⟨rfl, hE2, hE3⟩
  · have g := Lib.hid hE
    clear hE hE2 hc
    go_wp2
    go_ret3
    exact ⟨0, false, 4, rfl, .inl ⟨g.out, by decide, rfl, rfl⟩, hB1⟩
  · have g := Lib.hid hE
    have hn : n ≤ 16 := by rw [← gln.out]; exact hE2
    have gg := Lib.hid hE3
    clear hE hE2 hE3 hc
    by_cases c0 : N < 0
    · have f0 : decide (N < 0) = true := decide_eq_true c0
      have gd : Hid (¬ (0 ≤ N ∧ N ≤ 1048575)) := Lib.hid (by omega)
      clear c0
      go_wp2
      go_ret3
      exact ⟨0, false, 2, rfl, .inr (.inl ⟨g.out, gd.out, rfl, rfl, rfl⟩), hB1⟩
    have f0 : decide (N < 0) = false := decide_eq_false c0
    by_cases c1 : (1048575 : Int) < N
    · have f1 : decide ((1048575 : Int) < N) = true := decide_eq_true c1
      have gd : Hid (¬ (0 ≤ N ∧ N ≤ 1048575)) := Lib.hid (by omega)
      clear c0 c1
      go_wp2
      go_ret3
      exact ⟨0, false, 2, rfl, .inr (.inl ⟨g.out, gd.out, rfl, rfl, rfl⟩), hB1⟩
    have f1 : decide ((1048575 : Int) < N) = false := decide_eq_false c1
    have gd : Hid (0 ≤ N ∧ N ≤ 1048575) := Lib.hid (by omega)
    have hfi := first_any A n c l hn w1 (Recs.more (Recs.below gh.out hB1) hB1.size) N w.heap.size kb1.lt q0
    clear c0 c1
    go_wp2_with (go_at_call 50; refine hfi.mono ?_; rintro en w2 ⟨k, rfl, hk, hb2⟩)
    have hB2 : Below w.heap.size w w2 := hB1.trans (hb2.mono hB1.size)
    have kb2 := kb1.below hb2 kb1.lt
    have hBr := Below.refl w2.heap.size w2
    have qn : ∀ q : Bw w2.heap.size w2, q.w.cell? ⟨w.heap.size, 0, none⟩ = some (.int .i64 N) := fun q => by rw [(kb2.below q.h kb2.lt).cell]; rfl
    have gk := Lib.hid hk
    have gw : Hid (∀ q : Bw w2.heap.size w2, Below w.heap.size w q.w) := Lib.hid (fun q => hB2.trans (q.h.mono hB2.size))
    clear hk hfi q0 kb kb1 kb2 hb2
    by_cases hlt : k < n
    · obtain ⟨ad, nu, ep, cp, ag0, aX0, an0, ac0, ae0, ag1, aX1, an1, ac1, ae1, ag2, aX2, an2, ac2, ae2, ag3, aX3, an3, ac3, ae3, m, rfl, hb1, hl1, hx1, hrel1⟩ := ens_rel gh.out hlt
      have i1 : (0 : Int) ≤ k := by omega
      have i2 : (k : Int) < n := by omega
      have i3 : decide ((k : Int) < n) = true := decide_eq_true (by omega)
      have i4 : decide (k < n) = true := decide_eq_true hlt
      have f9 : ∀ q : Bw w2.heap.size w2, q.w.cell? (ad.add (k * 15)) = some (.int .i64 nu) := fun q => (hrel1 q.w (gw.out q)).2.1
      obtain ⟨Q, hQ⟩ : ∃ Q, (nu == N) = Q := ⟨_, rfl⟩
      have gI : Hid (Q = isAt l N k) := Lib.hid (by rw [← hQ]; simp [isAt, hl1, Bool.beq_eq_decide_eq])
      clear hrel1 hx1 hl1 hb1
      refine wp_region_wq w2.heap.size w2 hBr (by kernel_rfl) (by kernel_rfl) ?_
      repeat (first | (refine WQ.yes (by rfl) (fun K hK => ?_); go_simp; first | (refine hK _ ?_; clear hK K) | (apply Exists.intro; refine ⟨fun _ => ?_, hK _ ?_⟩; (fail); clear hK K)) | (refine WQ.no (by rfl) ?_; (try simp only [Act.put, List.setIfInBounds_toArray, List.set_cons_zero, List.set_cons_succ])))
      refine WQ.nil ?_
      intro pq
      go_wp2
      go_ret3
      exact ⟨k, Q, 0, rfl, .inr (.inr ⟨g.out, gd.out, ⟨k, rfl, gk.out, gI.out⟩, rfl⟩), gw.out pq⟩
    · have i3 : decide ((k : Int) < n) = false := decide_eq_false (by omega)
      have i4 : decide (k < n) = false := decide_eq_false hlt
      have gI : Hid (false = isAt l N k) := Lib.hid (by simp [isAt, List.getElem?_eq_none (show l.length ≤ k by rw [gln.out]; omega)])
      refine wp_region_wq w2.heap.size w2 hBr (by kernel_rfl) (by kernel_rfl) ?_
      repeat (first | (refine WQ.yes (by rfl) (fun K hK => ?_); go_simp; first | (refine hK _ ?_; clear hK K) | (apply Exists.intro; refine ⟨fun _ => ?_, hK _ ?_⟩; (fail); clear hK K)) | (refine WQ.no (by rfl) ?_; (try simp only [Act.put, List.setIfInBounds_toArray, List.set_cons_zero, List.set_cons_succ])))
      refine WQ.nil ?_
      intro pq
      go_wp2
      go_ret3
      exact ⟨k, false, 0, rfl, .inr (.inr ⟨g.out, gd.out, ⟨k, rfl, gk.out, gI.out⟩, rfl⟩), gw.out pq⟩
  · have g := Lib.hid hE
    clear hE hE2 hE3 hc
    go_wp2
    go_ret3
    exact ⟨0, false, 8, rfl, .inl ⟨g.out, by decide, rfl, rfl⟩, hB1⟩
end Go.Proofs.Ytdmjdpaehnhdoaa
