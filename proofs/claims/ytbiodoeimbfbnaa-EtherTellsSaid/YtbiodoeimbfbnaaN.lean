/- Ether: the program's Double. -/
import Derived.Test.YtbiodoeimbfbnaaM
namespace Go.Proofs.Ytbiodoeimbfbnaa
open Go.ChangeShapes Go.WideShapes Go.ChangeAt Go.RowKit
set_option linter.unusedSimpArgs false
set_option linter.unusedVariables false
/-- What doubling answers. -/
def dblS (l : List Cp) (i : Int) : List Cp × Int :=
  if chkE l = 0 then
    match (if 0 ≤ i then l[i.toNat]? else none) with
    | none => ([], 2)
    | some c => sndS l c
  else ([], chkE l)
theorem dbl_err {l : List Cp} {i : Int} {E : Int} (h : chkE l = E) (h0 : E ≠ 0) : dblS l i = ([], E) := by
  unfold dblS
  rw [if_neg (by rw [h]; exact h0), h]
theorem dbl_out {l : List Cp} {i : Int} (h : chkE l = 0) (hi : i < 0 ∨ (l.length : Int) ≤ i) : dblS l i = ([], 2) := by
  unfold dblS
  rw [if_pos h]
  rcases hi with hi | hi
  · rw [if_neg (by omega)]
  · rw [if_pos (by omega), List.getElem?_eq_none (by omega)]
theorem dbl_in {l : List Cp} {k : Nat} {c : Cp} (h : chkE l = 0) (hc : l[k]? = some c) : dblS l (k : Int) = sndS l c := by
  unfold dblS
  rw [if_pos h, if_pos (by omega)]
  simp [hc]
set_option maxRecDepth 100000 in
set_option maxHeartbeats 8000000 in
theorem double_any (A : Option Addr) (n c : Nat) (l : List Cp) (hn : n ≤ 1000) (i : Int) (w : World) (h1 : Cps w w.heap.size A n l) :
    Calls Try.prog 10 #[.slice A n c, .int .i64 i] w (SpOwn w (dblS l i)) := by
  have ln := cps_len h1
  by_cases hE : chkE l = 0
  rotate_left
  · rw [dbl_err rfl hE]
    obtain ⟨E, hE'⟩ : ∃ E, chkE l = E := ⟨_, rfl⟩
    rw [hE'] at hE ⊢
    have hat := at_err A n c l i (by omega) E hE' hE w h1
    have t1 : (E != 0) = true := bne_iff_ne.2 hE
    clear hE hE' h1 ln
    go_enter Try.func10, Try.ntmps10
    go_wp2_with fail
    refine hat.mono ?_
    rintro en w1 ⟨rfl, hb1⟩
    unfold zeroC
    go_wp2
    go_ret2
    exact spo_nil (hb1.alloc hb1.size _) E
  by_cases hi : i < 0 ∨ (n : Int) ≤ i
  · rw [dbl_out hE (by rw [ln]; exact hi)]
    have hat := at_arg A n c l i (by omega) hE hi w h1
    clear hE h1 ln hi
    go_enter Try.func10, Try.ntmps10
    go_wp2_with fail
    refine hat.mono ?_
    rintro en w1 ⟨rfl, hb1⟩
    unfold zeroC
    go_wp2
    go_ret2
    exact spo_nil (hb1.alloc hb1.size _) 2
  obtain ⟨k, rfl⟩ : ∃ k : Nat, i = k := ⟨i.toNat, by omega⟩
  have hk : k < n := by omega
  obtain ⟨num, dn, txt, sp, X, q, d, hl1, hx1, hxd1, rX, hat⟩ := at_ok A n c l k (by omega) hE hk w h1
  rw [dbl_in hE hl1]
  clear hE hl1 hi
  go_enter Try.func10, Try.ntmps10
  go_wp2_with fail
  refine hat.mono ?_
  rintro en w1 ⟨rfl, hb1⟩
  have hb := hb1.alloc hb1.size (.cells #[.int .i64 num, .int .i64 dn, .slice X q d, .bool sp] 25)
  have hs := fun nq => send_any A n c l hn num dn txt sp X q d hx1 hxd1 ((w1.alloc (.cells #[.int .i64 num, .int .i64 dn, .slice X q d, .bool sp] 25)).drewN nq) ((h1.below (below_drewN hb nq)).more (below_drewN hb nq).size) ((rX.below (below_drewN hb nq)).more (below_drewN hb nq).size)
  clear hat h1 rX hx1 hxd1 ln
  go_wp2_with fail
  refine (hs 0).mono ?_
  rintro en w2 ⟨Ao, co, rfl, h1, h2, h3, h4⟩
  have hb' := hb.trans (h4.mono hb.size)
  go_wp2
  go_ret2
  exact ⟨Ao, co, rfl, h1, h2, h3.mono (fun g h => ⟨Nat.le_trans hb.size h.1, h.2⟩), hb'⟩
end Go.Proofs.Ytbiodoeimbfbnaa
