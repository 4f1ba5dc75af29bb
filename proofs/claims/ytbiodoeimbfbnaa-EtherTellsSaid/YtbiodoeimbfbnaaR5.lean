/- Ether: how many have a Number; copies of a list -/
import Derived.Test.YtbiodoeimbfbnaaR4
import Derived.Deep.QuietTactic
import Derived.BigQuiet
namespace Go.Proofs.Ytbiodoeimbfbnaa
open Go.ChangeShapes Go.WideShapes Go.ChangeAt Go.RowKit
set_option linter.unusedSimpArgs false
set_option linter.unusedVariables false
/-- How many have a Number. -/
def cntN (l : List Cp) (x : Int) : Nat := (l.filter fun c => decide (c.num = x)).length
theorem cntN_le (l : List Cp) (x : Int) : cntN l x ≤ l.length := List.length_filter_le _ _
theorem cntN_step {l : List Cp} {k : Nat} {c : Cp} (h : l[k]? = some c) (x : Int) : cntN (l.take (k + 1)) x = cntN (l.take k) x + if c.num = x then 1 else 0 := by
  rw [← take_more h]
  unfold cntN
  rw [List.filter_append, List.length_append]
  by_cases hx : c.num = x <;> simp [hx]
def manyS (l : List Cp) (x : Int) : Int × Int := if chkE l = 0 then ((cntN l x : Int), 0) else (0, chkE l)
theorem many_err {l : List Cp} {x E : Int} (h : chkE l = E) (h0 : E ≠ 0) : manyS l x = (0, E) := by
  unfold manyS
  rw [if_neg (by rw [h]; exact h0), h]
theorem many_ok {l : List Cp} {x : Int} (h : chkE l = 0) : manyS l x = ((cntN l x : Int), 0) := by
  unfold manyS
  rw [if_pos h]
set_option maxHeartbeats 4000000 in
theorem counted_any (A : Option Addr) (n c : Nat) (l : List Cp) (hn : n ≤ 1000) (x : Int) (w : World) (h1 : Cps w w.heap.size A n l) :
    Calls Try.prog 27 #[.slice A n c, .int .i64 x] w fun en w' => en = .returned (.int .i64 (cntN l x : Nat)) ∧ w = w' := by
  have ln := Lib.hid (cps_len h1)
  go_enter Try.func27, Try.ntmps27
  go_wp2
  go_loop [5, 6] (fun s t => ∃ k q : Nat, k ≤ n ∧ q ≤ 1000 ∧ t = .int .i64 (k : Int) ∧ s = .int .i64 (q : Int) ∧ Hid (q = cntN (l.take k) x)) (fun _ t => n - (intOf t).toNat)
  case atStart => exact ⟨0, 0, Nat.zero_le _, by omega, rfl, rfl, Lib.hid (by simp [cntN])⟩
  case round =>
    obtain ⟨k, q, hk, hq, rfl, rfl, hs⟩ := hrel
    by_cases hlt : k < n
    · obtain ⟨ad, num, dn, txt, sp, X, m, d, rfl, hb1, hl1, hx1, hxd1, hr⟩ := cps_rel h1 hlt
      have a0 := (hr w (Below.refl _ _)).2.1
      have hst := cntN_step hl1 x
      simp only at hst
      have hle := cntN_le (l.take (k + 1)) x
      rw [List.length_take] at hle
      have i1 : (0 : Int) ≤ k := by omega
      have i2 : (k : Int) < n := by omega
      clear hr h1 hl1 hx1 hxd1 hb1
      by_cases hx : num = x
      · rw [if_pos hx] at hst
        have hs' : Hid (q + 1 = cntN (l.take (k + 1)) x) := Lib.hid (by rw [hst, ← hs.out])
        have hq2 : q + 1 ≤ 1000 := by rw [hs'.out]; omega
        have t1 : (num == x) = true := beq_iff_eq.2 hx
        clear hst hs hle hx
        go_wp2
        go_round
        case rel => exact ⟨k + 1, q + 1, by omega, hq2, by go_num, by go_num, hs'⟩
        case measure => simp [intOf]; omega
      · rw [if_neg hx] at hst
        have hs' : Hid (q = cntN (l.take (k + 1)) x) := Lib.hid (by rw [hst, ← hs.out]; rfl)
        have t1 : (num == x) = false := beq_eq_false_iff_ne.2 hx
        clear hst hs hle hx
        go_wp2
        go_round
        case rel => exact ⟨k + 1, q, by omega, hq, by go_num, rfl, hs'⟩
        case measure => simp [intOf]; omega
    · obtain rfl : k = n := by omega
      have hs' := hs.out
      rw [List.take_of_length_le (by rw [ln.out]; exact Nat.le_refl _)] at hs'
      subst hs'
      clear h1 hlt
      go_wp2
      go_ret
      exact ⟨rfl, rfl⟩
set_option maxHeartbeats 4000000 in
theorem rmany_any (A : Option Addr) (n c : Nat) (l : List Cp) (hn : n ≤ 1000) (x : Int) (w : World) (h1 : Cps w w.heap.size A n l) (R : Int × Int) (hR : manyS l x = R) :
    Calls Try.prog 13 #[.slice A n c, .int .i64 x] w fun en w' => en = .returned (.tuple #[.int .i64 R.1, .int .i64 R.2]) ∧ Below w.heap.size w w' := by
  subst hR
  obtain ⟨E, hE⟩ : ∃ E, chkE l = E := ⟨_, rfl⟩
  have hck := rcheck_any A n c l (by omega) E hE w h1
  by_cases hE0 : E = 0
  · subst hE0
    rw [many_ok hE]
    clear hE
    go_enter Try.func13, Try.ntmps13
    go_wp2_with fail
    refine hck.mono ?_
    rintro en w1 ⟨rfl, hb1⟩
    have hc := counted_any A n c l hn x w1 ((h1.below hb1).more hb1.size)
    clear hck h1
    go_wp2_with fail
    refine hc.mono ?_
    rintro en w2 ⟨rfl, rfl⟩
    go_wp2
    go_ret2
    exact ⟨rfl, hb1⟩
  · rw [many_err hE hE0]
    have t1 : (E != 0) = true := bne_iff_ne.2 hE0
    clear hE hE0 h1
    go_enter Try.func13, Try.ntmps13
    go_wp2_with fail
    refine hck.mono ?_
    rintro en w1 ⟨rfl, hb1⟩
    go_wp2
    go_ret2
    exact ⟨rfl, hb1⟩
set_option maxHeartbeats 4000000 in
theorem many_any (A : Option Addr) (n c : Nat) (l : List Cp) (hn : n ≤ 1000) (x : Int) (w : World) (h1 : Cps w w.heap.size A n l) (R : Int × Int) (hR : manyS l x = R) :
    Calls Try.prog 12 #[.slice A n c, .int .i64 x] w fun en w' => en = .returned (.tuple #[.int .i64 R.1, .int .i64 R.2]) ∧ Below w.heap.size w w' := by
  subst hR
  have ln := Lib.hid (cps_len h1)
  obtain ⟨E, hE⟩ : ∃ E, chkE l = E := ⟨_, rfl⟩
  have hck := check_any A n c l (by omega) E hE w h1
  by_cases hE0 : E = 0
  · subst hE0
    rw [many_ok hE]
    clear hE
    go_enter Try.func12, Try.ntmps12
    go_wp2_with fail
    refine hck.mono ?_
    rintro en w1 ⟨rfl, hb1⟩
    clear hck
    go_wp2
    go_loopw [4, 16] (fun s t wr => ∃ k q : Nat, k ≤ n ∧ q ≤ 1000 ∧ t = .int .i64 (k : Int) ∧ s = .int .i64 (q : Int) ∧ Hid (q = cntN (l.take k) x) ∧ Below w.heap.size w wr) (fun _ t _ => n - (intOf t).toNat)
    case atStart => exact ⟨0, 0, Nat.zero_le _, by omega, rfl, rfl, Lib.hid (by simp [cntN]), hb1⟩
    case round =>
      clear hb1
      obtain ⟨k, q, hk, hq, rfl, rfl, hs, hB⟩ := hrel
      by_cases hlt : k < n
      · obtain ⟨ad, num, dn, txt, sp, X, m, d, rfl, hb1, hl1, hx1, hxd1, hr⟩ := cps_rel h1 hlt
        obtain ⟨a0, a1, a2, a3⟩ := (hr wr hB).2
        have hB2 := hB.alloc hB.size (.cells #[.int .i64 num, .int .i64 dn, .slice X m d, .bool sp] 25)
        have hst := cntN_step hl1 x
        simp only at hst
        have hle := cntN_le (l.take (k + 1)) x
        rw [List.length_take] at hle
        have i1 : (0 : Int) ≤ k := by omega
        have i2 : (k : Int) < n := by omega
        clear hr h1 hl1 hx1 hxd1 hb1 hB
        by_cases hx : num = x
        · rw [if_pos hx] at hst
          have hs' : Hid (q + 1 = cntN (l.take (k + 1)) x) := Lib.hid (by rw [hst, ← hs.out])
          have hq2 : q + 1 ≤ 1000 := by rw [hs'.out]; omega
          have t1 : (num == x) = true := beq_iff_eq.2 hx
          clear hst hs hle hx
          go_wp2
          go_roundw
          case rel => exact ⟨k + 1, q + 1, by omega, hq2, by go_num, by go_num, hs', hB2⟩
          case measure => simp [intOf]; omega
        · rw [if_neg hx] at hst
          have hs' : Hid (q = cntN (l.take (k + 1)) x) := Lib.hid (by rw [hst, ← hs.out]; rfl)
          have t1 : (num == x) = false := beq_eq_false_iff_ne.2 hx
          clear hst hs hle hx
          go_wp2
          go_roundw
          case rel => exact ⟨k + 1, q, by omega, hq, by go_num, rfl, hs', hB2⟩
          case measure => simp [intOf]; omega
      · obtain rfl : k = n := by omega
        have hs' := hs.out
        rw [List.take_of_length_le (by rw [ln.out]; exact Nat.le_refl _)] at hs'
        subst hs'
        clear h1 hlt
        go_wp2
        go_ret2
        exact ⟨rfl, hB⟩
  · rw [many_err hE hE0]
    have t1 : (E != 0) = true := bne_iff_ne.2 hE0
    clear hE hE0 h1
    go_enter Try.func12, Try.ntmps12
    go_wp2_with fail
    refine hck.mono ?_
    rintro en w1 ⟨rfl, hb1⟩
    go_wp2
    go_ret2
    exact ⟨rfl, hb1⟩
set_option maxHeartbeats 4000000 in
theorem twin_any (A : Option Addr) (n c : Nat) (l : List Cp) (hn : n ≤ 1000) (hs : ∀ x ∈ l, x.txt.length ≤ 10000) (w : World) (h1 : Cps w w.heap.size A n l) :
    Calls Try.prog 14 #[.slice A n c] w fun en w' => ∃ Ao co, en = .returned (.slice Ao n co) ∧ TwPost w n l Ao co w' := by
  obtain ⟨V, hV⟩ : ∃ V, V = w.alloc (.cells #[.slice A n c] 22) := ⟨_, rfl⟩
  have rl := reads_new w [.slice A n c] 22 1 rfl
  have b2 : Below w.heap.size w V := by rw [hV]; exact (Below.refl _ _).alloc (Nat.le_refl _) _
  have rl2 : Reads V V.heap.size 1 (some ⟨w.heap.size, 0, none⟩) 1 [.slice A n c] := by rw [hV, World.size_alloc]; exact rl
  have e : flat [(A, n, c, l)] = l := by simp [flat]
  have hj := joined_any (some ⟨w.heap.size, 0, none⟩) 1 1 [(A, n, c, l)] (by omega) n (by rw [e, cps_len h1]) (by omega) (by
    intro t h x hx
    rw [List.mem_singleton.1 h] at hx
    exact hs x hx) V rl2 (by
    intro t h
    rw [List.mem_singleton.1 h]
    exact ⟨by simp only; omega, (h1.below b2).more b2.size⟩)
  rw [e] at hj
  clear rl rl2 h1 hs
  go_enter Try.func14, Try.ntmps14
  go_wp2_with fail
  rw [← hV]
  refine hj.mono ?_
  rintro en w3 ⟨Ao, co, rfl, hco, hcps, hwr, hb5, hacc⟩
  have hb6 := b2.trans (hb5.mono b2.size)
  have hw3 := hwr.mono (S' := fun g => w.heap.size ≤ g ∧ g < w3.heap.size) (fun g h => ⟨Nat.le_trans b2.size h.1, h.2⟩)
  have hac := acc_base_le hacc b2.size
  clear hV hwr hacc hb5
  go_wp2
  go_ret
  exact ⟨Ao, co, rfl, hco, hcps, hw3, hb6, hac⟩
end Go.Proofs.Ytbiodoeimbfbnaa
