/- Ether: how great copies are; copies written over. -/
import Derived.Test.YtbiodoeimbfbnaaD
namespace Go.Proofs.Ytbiodoeimbfbnaa
open Go.ChangeShapes Go.WideShapes Go.ChangeAt Go.RowKit
set_option linter.unusedSimpArgs false
set_option linter.unusedVariables false
def GrPost (w : World) (l : List Cp) (en : Ending) (w' : World) : Prop := ∃ G : Bool, en = .returned (.bool G) ∧ w = w' ∧ (G = false → l.length ≤ 20 ∧ ∀ x ∈ l, x.txt.length ≤ 5000)
set_option maxHeartbeats 4000000 in
theorem great_any (A : Option Addr) (n c : Nat) (l : List Cp) (hm : n ≤ maxLen) (w : World) (h1 : Cps w w.heap.size A n l) : Calls Try.prog 4 #[.slice A n c] w (GrPost w l) := by
  have ln := cps_len h1
  by_cases h20 : 20 < n
  · have d1 : decide ((20 : Int) < n) = true := decide_eq_true (by omega)
    have d2 : decide (20 < n) = true := decide_eq_true h20
    clear h1 ln hm
    go_enter Try.func4, Try.ntmps4
    go_wp2
    go_ret
    exact ⟨true, rfl, rfl, fun h => by cases h⟩
  have d1 : decide ((20 : Int) < n) = false := decide_eq_false (by omega)
  have d2 : decide (20 < n) = false := decide_eq_false h20
  have n20 : n ≤ 20 := by omega
  have gln := Lib.hid ln
  clear ln hm h20
  go_enter Try.func4, Try.ntmps4
  go_wp2
  go_loopw [3, 4] (fun s t wr => ∃ k q : Nat, k ≤ n ∧ q ≤ 5000 * k ∧ s = .int .i64 (q : Int) ∧ t = .int .i64 (k : Int) ∧ Hid (∀ (j : Nat) x, j < k → l[j]? = some x → x.txt.length ≤ 5000) ∧ wr = w) (fun _ t _ => n - (intOf t).toNat)
  case atStart => exact ⟨0, 0, Nat.zero_le _, by omega, rfl, rfl, Lib.hid (fun j x h => by omega), rfl⟩
  case round =>
    obtain ⟨k, q, hk, hq, rfl, rfl, h0, rfl⟩ := hrel
    by_cases hlt : k < n
    · obtain ⟨ad, num, dn, txt, sp, X, m, d, rfl, hb1, hl1, hx1, hxd1, hrel1⟩ := cps_rel h1 hlt
      obtain ⟨a0, a1, a2, a3⟩ := (hrel1 wr (Below.refl _ _)).2
      have i1 : (0 : Int) ≤ k := by omega
      have i2 : (k : Int) < n := by omega
      by_cases h5 : 5000 < m
      · have d3 : decide ((5000 : Int) < m) = true := decide_eq_true (by omega)
        have d4 : decide (5000 < m) = true := decide_eq_true h5
        clear hl1 hx1 hrel1 h0 h1 h5
        go_wp2
        go_ret
        exact ⟨true, rfl, rfl, fun h => by cases h⟩
      · have d3 : decide ((5000 : Int) < m) = false := decide_eq_false (by omega)
        have d4 : decide (5000 < m) = false := decide_eq_false h5
        have m5 : m ≤ 5000 := by omega
        have h0' : Hid (∀ (j : Nat) x, j < k + 1 → l[j]? = some x → x.txt.length ≤ 5000) := Lib.hid (fun j x hj hx => by
          rcases Nat.lt_or_ge j k with h | h
          · exact h0.out j x h hx
          · rw [show j = k by omega, hl1] at hx
            injection hx with hx
            subst hx
            simp only
            omega)
        clear hl1 hx1 hrel1 h0 h1 h5
        go_wp2
        go_roundw
        case rel => exact ⟨k + 1, q + m, by omega, by omega, by go_num, by go_num, h0', by first | rfl | trivial⟩
        case measure => simp [intOf] <;> omega
    · obtain rfl : k = n := by omega
      obtain ⟨G, hG⟩ : ∃ G, decide ((9000 : Int) < q) = G := ⟨_, rfl⟩
      have hG2 : decide (9000 < q) = G := by rw [← hG]; exact decide_eq_decide.2 (by omega)
      have hall : Hid (l.length ≤ 20 ∧ ∀ x ∈ l, x.txt.length ≤ 5000) := Lib.hid (⟨by rw [gln.out]; exact n20, fun x hx => by
        obtain ⟨i, hi, rfl⟩ := List.mem_iff_getElem.1 hx
        exact h0.out i _ (by rw [← gln.out]; exact hi) (List.getElem?_eq_getElem hi)⟩)
      clear h0 h1
      go_wp2
      go_ret
      exact ⟨G, by first | rfl | rw [← hG2], rfl, fun _ => hall.out⟩
theorem fds_len (l : List Cp) : ∀ r, r ∈ l.map fds → r.length = 4 := by
  intro r hr
  obtain ⟨c, _, rfl⟩ := List.mem_map.1 hr
  rfl
set_option maxHeartbeats 8000000 in
theorem spoil_any (S : Nat → Prop) (A : Option Addr) (n c : Nat) (l : List Cp) (hm : n ≤ 1000) (hs1 : ∀ x ∈ l, x.txt.length ≤ 10000) (w : World) (hW : Wr w S 25 4 A n (l.map fds)) :
    Calls Try.prog 20 #[.slice A n c] w fun en w' => en = .returned (.tuple #[]) ∧ Fr S w w' := by
  have ln : l.length = n := by have := hW.1; simpa using this
  have gln := Lib.hid ln
  have hfl := Lib.hid (fds_len l)
  have gs := Lib.hid hs1
  have hF0 := Fr.refl S w
  clear ln hs1
  go_enter Try.func20, Try.ntmps20
  go_wp2
  go_loopw [2] (fun t wr => ∃ k : Nat, k ≤ n ∧ t = .int .i64 (k : Int) ∧ Wr wr S 25 4 A n (l.map fds) ∧ Fr S w wr) (fun t _ => n - (intOf t).toNat)
  case atStart => exact ⟨0, Nat.zero_le _, rfl, hW, hF0⟩
  case round =>
    clear hW hF0
    obtain ⟨k, hk, rfl, hW, hF⟩ := hrel
    by_cases hlt : k < n
    · obtain ⟨cp, hcp⟩ : ∃ cp, l[k]? = some cp := ⟨_, List.getElem?_eq_getElem (show k < l.length by rw [gln.out]; exact hlt)⟩
      have hr : (l.map fds)[k]? = some (fds cp) := by rw [List.getElem?_map, hcp]; rfl
      have hq := gs.out _ (List.mem_of_getElem? hcp)
      obtain ⟨g, v, rfl, hg, cv, cf, hW2, hF2⟩ := hW.set_val hr (j := 0) rfl hfl.out (.int .i64 (-7))
      rw [Nat.add_zero] at cv cf hW2 hF2
      obtain ⟨g2, X, m, d, hA, hg2, hxl, cX, hz9⟩ := hW2.set_row (q := 0) hr (j := 2) rfl
      injection hA with hA
      injection hA with hA _ _
      subst hA
      have hm5 : m ≤ 10000 := by omega
      have hF3 := hF.trans hF2
      have i1 : (0 : Int) ≤ k := by omega
      have i2 : (k : Int) < n := by omega
      have grr := Lib.hid hr
      have gxl := Lib.hid hxl
      clear hz9 hW hcp hr hxl hF hF2 hq
      go_wp2
      obtain ⟨wo, hwo⟩ : ∃ wo, wo = wr.setCell ⟨g, k * 4, none⟩ (.int .i64 (-7)) := ⟨_, rfl⟩
      rw [← hwo] at hW2 hF3 cX ⊢
      clear hwo cv cf
      go_loopw [3] (fun t wx => ∃ q : Nat, q ≤ m ∧ t = .int .i64 (q : Int) ∧ Wr wx S 25 4 (some ⟨g, 0, none⟩) n (l.map fds) ∧ Fr S w wx ∧ wx.cell? ⟨g, k * 4 + 2, none⟩ = some (.slice X m d)) (fun t _ => m - (intOf t).toNat)
      case atStart => exact ⟨0, Nat.zero_le _, rfl, hW2, hF3, cX⟩
      case round =>
        clear hW2 hF3 cX
        obtain ⟨q, hq, rfl, hW, hF, cX⟩ := hrel
        by_cases hlt2 : q < m
        · obtain ⟨g2, X2, m2, d2, hA, hg2, hxl, cX2, hset⟩ := hW.set_row (q := q) grr.out (j := 2) rfl
          injection hA with hA
          injection hA with hA _ _
          subst hA
          rw [cX] at cX2
          injection cX2 with cX2
          injection cX2 with hX hm2 hd
          subst hX hm2 hd
          obtain ⟨g', v', rfl, hg', cv', cf', hset2⟩ := hset hlt2
          obtain ⟨hW3, hF3⟩ := hset2 (.int .u8 7)
          have hF4 := hF.trans hF3
          have hne : g' ≠ g := by
            obtain ⟨ga, cur, e1, _, hba, hca⟩ := hW.2 (by omega)
            injection e1 with e1
            injection e1 with e1 _ _
            subst e1
            obtain ⟨va, hva, hwa⟩ := hca k _ grr.out 2 _ rfl
            obtain ⟨Xa, ma, da, e2, e3, hwr⟩ := hwa
            have e4 := hba.cell (k * 4 + 2)
            rw [cX, hva, e2] at e4
            injection e4 with e4
            injection e4 with e5 e6 e7
            obtain ⟨gb, T, c1, e8, _, hbb, _, hT⟩ := hwr (by omega)
            rw [← e5] at e8
            injection e8 with e8
            injection e8 with e8 _ _
            subst e8
            exact hbb.ne_ hba hT
          have cX3 : (wr.setCell ⟨g', q, none⟩ (.int .u8 7)).cell? ⟨g, k * 4 + 2, none⟩ = some (.slice (some ⟨g', 0, none⟩) m d) := by
            rw [World.cell?_setCell_other wr _ _ _ (by intro e; injection e with e; exact hne e)]
            exact cX
          have i3 : (0 : Int) ≤ q := by omega
          have i4 : (q : Int) < m := by omega
          clear hset hset2 hxl hW hF hF3
          go_wp2
          go_roundw
          case rel => exact ⟨q + 1, by omega, by go_num, hW3, hF4, cX3⟩
          case measure => simp [intOf] <;> omega
        · obtain rfl : q = m := by omega
          go_wp2
          go_roundw
          case rel => exact ⟨k + 1, by omega, by go_num, hW, hF⟩
          case measure => simp [intOf] <;> omega
    · obtain rfl : k = n := by omega
      clear hW
      go_wp2
      go_end0
      exact ⟨rfl, hF⟩
end Go.Proofs.Ytbiodoeimbfbnaa
