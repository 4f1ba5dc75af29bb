/- Ether: joined: lists of copies, one behind the other, in new memory. -/
import Derived.Test.YtbiodoeimbfbnaaD
namespace Go.Proofs.Ytbiodoeimbfbnaa
open Go.ChangeShapes Go.WideShapes Go.ChangeAt Go.RowKit
set_option linter.unusedSimpArgs false
set_option linter.unusedVariables false
abbrev Ls := Option Addr × Nat × Nat × List Cp
def flat (ts : List Ls) : List Cp := ts.flatMap fun t => t.2.2.2
theorem flat_more {ts : List Ls} {k : Nat} {t : Ls} (h : ts[k]? = some t) : flat (ts.take k) ++ t.2.2.2 = flat (ts.take (k + 1)) := by
  unfold flat
  rw [List.take_succ_eq_append_getElem (List.getElem?_eq_some_iff.1 h).1, (List.getElem?_eq_some_iff.1 h).2, List.flatMap_append, List.flatMap_cons, List.flatMap_nil, List.append_nil]
theorem flat_le (ts : List Ls) (k : Nat) : (flat (ts.take k)).length ≤ (flat ts).length := by
  conv => rhs; rw [← List.take_append_drop k ts]
  unfold flat
  rw [List.flatMap_append, List.length_append]
  omega
set_option maxHeartbeats 8000000 in
theorem joined_any (LA : Option Addr) (nl nc : Nat) (ts : List Ls) (hnl : nl ≤ 1000) (N : Nat) (hN : (flat ts).length = N) (hN2 : N ≤ 2000) (hs1 : ∀ t ∈ ts, ∀ x ∈ t.2.2.2, x.txt.length ≤ 10000) (w : World) (hL : Reads w w.heap.size 1 LA nl (ts.map fun t => Value.slice t.1 t.2.1 t.2.2.1)) (hc : ∀ t ∈ ts, t.2.1 ≤ 2000 ∧ Cps w w.heap.size t.1 t.2.1 t.2.2.2) :
    Calls Try.prog 22 #[.slice LA nl nc] w fun en w' => ∃ Ao co, en = .returned (.slice Ao N co) ∧ TwPost w N (flat ts) Ao co w' := by
  obtain ⟨i0, hi0, hz0, hz1, hz2⟩ := info_parts infoC
  have hln : ts.length = nl := by have := hL.1; simpa using this
  have gln := Lib.hid hln
  have gN := Lib.hid hN
  have gc := Lib.hid hc
  have gs := Lib.hid hs1
  have hB0 := Below.refl w.heap.size w
  clear hln hN hc hs1
  go_enter Try.func22, Try.ntmps22
  go_wp2
  go_loopw [3, 10] (fun o t wr => ∃ (k r : Nat) (Ac : Option Addr) (cc : Nat), k ≤ nl ∧ t = .int .i64 (k : Int) ∧ o = .slice Ac r cc ∧ Hid (r = (flat (ts.take k)).length) ∧ Hid (Acc wr w.heap.size (.slice Ac r cc) r (flat (ts.take k))) ∧ Below w.heap.size w wr) (fun _ t _ => nl - (intOf t).toNat)
  case atStart => exact ⟨0, 0, none, 0, Nat.zero_le _, rfl, rfl, Lib.hid (by simp [flat]), Lib.hid (by rw [List.take_zero]; exact acc_nil _ _), hB0⟩
  case round =>
    clear hB0
    obtain ⟨k, r, Ac, cc, hk, rfl, rfl, hr, hA, hB⟩ := hrel
    by_cases hlt : k < nl
    · obtain ⟨ad, u, rfl, hab, hu, cA⟩ := (hL.below hB).at_ hlt
      rw [List.getElem?_map] at hu
      obtain ⟨⟨A, n, c, l⟩, htk, rfl⟩ := Option.map_eq_some_iff.1 hu
      obtain ⟨hn2, h1⟩ := gc.out _ (List.mem_of_getElem? htk)
      simp only at hn2 h1 cA
      have hs1 : ∀ x ∈ l, x.txt.length ≤ 10000 := gs.out _ (List.mem_of_getElem? htk)
      have hfm := flat_more htk
      simp only at hfm
      have ln := cps_len h1
      have hNb : (flat (ts.take k)).length + n ≤ N := by
        have := flat_le ts (k + 1)
        rw [← hfm, List.length_append, ln, gN.out] at this
        exact this
      have gfm := Lib.hid hfm
      have gln2 := Lib.hid ln
      have gNb := Lib.hid hNb
      have o1 : (0 : Int) ≤ k := by omega
      have o2 : (k : Int) < nl := by omega
      clear hu htk hfm ln hNb
      have gs1 := Lib.hid hs1
      clear hs1 gs gc
      go_wp2
      obtain ⟨wo, rfl⟩ : ∃ wo : World, wo = wr := ⟨_, rfl⟩
      go_loopw [3, 16] (fun o t wr => ∃ (j r : Nat) (Ac : Option Addr) (cc : Nat), j ≤ n ∧ t = .int .i64 (j : Int) ∧ o = .slice Ac r cc ∧ Hid (r = (flat (ts.take k)).length + j) ∧ r ≤ 2000 ∧ Hid (Acc wr w.heap.size (.slice Ac r cc) r (flat (ts.take k) ++ l.take j)) ∧ Below w.heap.size w wr) (fun _ t _ => n - (intOf t).toNat)
      case atStart => exact ⟨0, r, Ac, cc, Nat.zero_le _, rfl, rfl, Lib.hid (by rw [hr.out]; rfl), by have := hr.out; have := gNb.out; omega, Lib.hid (by rw [List.take_zero, List.append_nil]; exact hA.out), hB⟩
      case round =>
        clear hA hB hr cA
        obtain ⟨j, r, Ac, cc, hj, rfl, rfl, hr, hr2, hA, hB⟩ := hrel
        by_cases hlt2 : j < n
        · obtain ⟨ad, num, dn, txt, sp, X, m, d, rfl, hb1, hl1, hx1, hxd1, hrel1⟩ := cps_rel h1 hlt2
          have q1 : m ≤ 10000 := by have := gs1.out _ (List.mem_of_getElem? hl1); simp only at this; omega
          obtain ⟨a0, a1, a2, a3⟩ := (hrel1 wr hB).2
          obtain ⟨W1, hW1⟩ : ∃ W, W = wr.alloc (.cells #[.int .i64 num, .int .i64 dn, .slice X m d, .bool sp] 25) := ⟨_, rfl⟩
          have hB1 : Below wr.heap.size wr W1 := by rw [hW1]; exact (Below.refl _ _).alloc (Nat.le_refl _) _
          have kb : Blk W1 wr.heap.size 25 #[.int .i64 num, .int .i64 dn, .slice X m d, .bool sp] := by rw [hW1]; exact Blk.new _ _ _
          have rX := (hrel1 W1 (hB.trans (hB1.mono hB.size))).1
          have hc := clone_any X m d txt hx1 (by omega) W1 rX
          have i1 : (0 : Int) ≤ j := by omega
          have i2 : (j : Int) < n := by omega
          rw [hW1] at hc
          unfold ClPost at hc
          rw [World.size_alloc] at hc
          have hts : (flat (ts.take k) ++ l.take j) ++ [⟨num, dn, txt, sp⟩] = flat (ts.take k) ++ l.take (j + 1) := by rw [List.append_assoc, take_more hl1]
          have gts := Lib.hid hts
          have gx1 := Lib.hid hx1
          clear hrel1 hl1 hts hx1 hB1 kb rX hW1 o1 o2
          go_wp2_with (first | (go_at_call 25; (with_reducible refine hc.mono ?_); rintro en w2 ⟨Ao, co, rfl, hco, hXo, hb2⟩; obtain ⟨⟨kc0, kc1, kc2, kc3⟩, kf, ks, hBs, hXs, hb0, os, hos, hown, htx, hsp, hltt⟩ := boxed (co := co) hB hA.out hb2 hXo; clear a0 a1 a2 a3 hA hXo hb2 hc) | (at_builtin; refine wpList_push2 rfl (.tmp 24) (.tmp 26) 22 rfl w.heap.size 25 i0 _ 4 48 Try.underlying22 hi0 hz0 hz1 hz2 rfl (by omega) hBs (Nat.le_refl _) (.slice Ac r cc) r _ rfl hown [.int .i64 num, .int .i64 dn, .slice Ao m co, .bool sp] rfl (one4 _ _ _ _ _ _) (by rw [size_set]; rfl) (by unfold maxLen; omega) (by omega) ?_; intro v5 w5 ho5 hb5 hk5; have hA5 := acc_push gx1.out hco hos hown htx hsp hltt hXs hb0 ho5 hk5; obtain ⟨A5, c5, rfl⟩ := acc_slice hA5; clear hown ho5 hk5 htx hos hBs hsp hltt))
          have gA5 : Hid (Acc w5 w.heap.size (.slice A5 (r + 1) c5) (r + 1) (flat (ts.take k) ++ l.take (j + 1))) := Lib.hid (by rw [← gts.out]; exact hA5)
          have hr' : Hid (r + 1 = (flat (ts.take k)).length + (j + 1)) := Lib.hid (by rw [hr.out]; omega)
          have hr3 : r + 1 ≤ 2000 := by have := hr.out; have := gNb.out; omega
          clear hA5 hr gts
          go_roundw
          case rel => exact ⟨j + 1, r + 1, A5, c5, by omega, by go_num, rfl, hr', hr3, gA5, hb5⟩
          case measure => simp [intOf] <;> omega
        · obtain rfl : j = n := by omega
          have gA5 : Hid (Acc wr w.heap.size (.slice Ac r cc) r (flat (ts.take (k + 1)))) := Lib.hid (by have := hA.out; rw [List.take_of_length_le (l := l) (by rw [gln2.out]; exact Nat.le_refl _), gfm.out] at this; exact this)
          have hr' : Hid (r = (flat (ts.take (k + 1))).length) := Lib.hid (by rw [hr.out, ← gfm.out, List.length_append, gln2.out])
          clear hA hr
          go_wp2
          go_roundw
          case rel => exact ⟨k + 1, r, Ac, cc, by omega, by go_num, rfl, hr', gA5, hB⟩
          case measure => simp [intOf] <;> omega
    · obtain rfl : k = nl := by omega
      have hd := acc_done hA.out hB
      rw [List.take_of_length_le (by rw [gln.out]; exact Nat.le_refl _)] at hd
      have hrN : r = N := by have := hr.out; rw [List.take_of_length_le (by rw [gln.out]; exact Nat.le_refl _), gN.out] at this; exact this
      subst hrN
      have gd := Lib.hid hd
      clear hA hd hr gN gc gs hL
      go_wp2
      go_ret
      exact ⟨Ac, cc, rfl, gd.out⟩
end Go.Proofs.Ytbiodoeimbfbnaa
