/- Flight: great loads -/
import Derived.Test.YtdmjdpaehnhdoaaDoorLD
namespace Go.Proofs.YtdmjdpaehnhdoaaDoor
open Go.ChangeShapes Go.WideShapes Go.ChangeAt Go.RowKit
set_option linter.unusedSimpArgs false
set_option linter.unusedVariables false
/-- What loads are if they are not great. -/
def fine (l : List En) : Prop := ∀ x ∈ l, x.give.s.ls.length ≤ 42 ∧ x.give.w.ls.length ≤ 42 ∧ x.give.c.ls.length ≤ 42 ∧ x.give.a.ls.length ≤ 42
def GrE (w : World) (l : List En) (en : Ending) (w' : World) : Prop := ∃ G : Bool, en = .returned (.bool G) ∧ Below w.heap.size w w' ∧ (G = false → l.length ≤ 20 ∧ fine l)
theorem grM_no {n0 n1 n2 n3 : Nat} {e0 e1 e2 e3 : Int} (h : grM n0 e0 n1 e1 n2 e2 n3 e3 = false) : n0 ≤ 42 ∧ n1 ≤ 42 ∧ n2 ≤ 42 ∧ n3 ≤ 42 := by
  unfold grM grD at h
  simp only [Bool.or_eq_false_iff, decide_eq_false_iff_not] at h
  omega
set_option maxRecDepth 100000 in
set_option maxHeartbeats 8000000 in
theorem lgreat_any (A : Option Addr) (n c : Nat) (l : List En) (hm : n ≤ maxLen) (w : World) (h1 : Ens w w.heap.size A n l) : Calls Tryd.prog 6 #[.slice A n c] w (GrE w l) := by
  have gln := Lib.hid (ens_len h1)
  by_cases hb : 20 < n
  · have d5 : decide ((20 : Int) < n) = true := decide_eq_true (by omega)
    have d6 : decide (20 < n) = true := decide_eq_true hb
    clear h1 hb hm
    go_enter Tryd.func6, Tryd.ntmps6
    go_wp2
    go_ret
    exact ⟨true, rfl, Below.refl _ _, fun h => by cases h⟩
  have hn : n ≤ 20 := by omega
  have d5 : decide ((20 : Int) < n) = false := decide_eq_false (by omega)
  have d6 : decide (20 < n) = false := decide_eq_false hb
  have hB0 := Below.refl w.heap.size w
  clear hb
  go_enter Tryd.func6, Tryd.ntmps6
  go_wp2
  go_loopw [3] (fun t wr => ∃ k : Nat, k ≤ n ∧ t = .int .i64 (k : Int) ∧ Hid (fine (l.take k)) ∧ Below w.heap.size w wr) (fun t _ => n - (intOf t).toNat)
  case atStart => exact ⟨0, Nat.zero_le _, rfl, Lib.hid (fun x hx => by simp at hx), hB0⟩
  case round =>
    clear hB0
    obtain ⟨k, hk, rfl, h0, hB⟩ := hrel
    by_cases hlt : k < n
    · obtain ⟨ad, nu, ep, cp, ag0, aX0, an0, ac0, ae0, ag1, aX1, an1, ac1, ae1, ag2, aX2, an2, ac2, ae2, ag3, aX3, an3, ac3, ae3, m, rfl, hb1, hl1, hx1, hrel1⟩ := ens_rel h1 hlt
      obtain ⟨a0, a1, a2, a3, a4, a5, a6, a7, a8, a9, a10, a11, a12, a13, a14⟩ : wr.cell? (ad.add (k * 15)) = some (.int .i64 nu) ∧ wr.cell? ⟨(ad.add (k * 15)).block, (ad.add (k * 15)).off + 1, none⟩ = some (.int .i64 ep) ∧ wr.cell? ⟨(ad.add (k * 15)).block, (ad.add (k * 15)).off + 2, none⟩ = some (.int .i64 cp) ∧ wr.cell? ⟨(ad.add (k * 15)).block, (ad.add (k * 15)).off + 3, none⟩ = some (.bool ag0) ∧ wr.cell? ⟨(ad.add (k * 15)).block, (ad.add (k * 15)).off + 3 + 1, none⟩ = some (.slice aX0 an0 ac0) ∧ wr.cell? ⟨(ad.add (k * 15)).block, (ad.add (k * 15)).off + 3 + 2, none⟩ = some (.int .i64 ae0) ∧ wr.cell? ⟨(ad.add (k * 15)).block, (ad.add (k * 15)).off + 3 + 3, none⟩ = some (.bool ag1) ∧ wr.cell? ⟨(ad.add (k * 15)).block, (ad.add (k * 15)).off + 3 + 4, none⟩ = some (.slice aX1 an1 ac1) ∧ wr.cell? ⟨(ad.add (k * 15)).block, (ad.add (k * 15)).off + 3 + 5, none⟩ = some (.int .i64 ae1) ∧ wr.cell? ⟨(ad.add (k * 15)).block, (ad.add (k * 15)).off + 3 + 6, none⟩ = some (.bool ag2) ∧ wr.cell? ⟨(ad.add (k * 15)).block, (ad.add (k * 15)).off + 3 + 7, none⟩ = some (.slice aX2 an2 ac2) ∧ wr.cell? ⟨(ad.add (k * 15)).block, (ad.add (k * 15)).off + 3 + 8, none⟩ = some (.int .i64 ae2) ∧ wr.cell? ⟨(ad.add (k * 15)).block, (ad.add (k * 15)).off + 3 + 9, none⟩ = some (.bool ag3) ∧ wr.cell? ⟨(ad.add (k * 15)).block, (ad.add (k * 15)).off + 3 + 10, none⟩ = some (.slice aX3 an3 ac3) ∧ wr.cell? ⟨(ad.add (k * 15)).block, (ad.add (k * 15)).off + 3 + 11, none⟩ = some (.int .i64 ae3) := (hrel1 wr hB).2
      obtain ⟨Q, hQ⟩ : ∃ Q, grM an0 ae0 an1 ae1 an2 ae2 an3 ae3 = Q := ⟨_, rfl⟩
      have hc := mgreat_any ag0 aX0 an0 ac0 ae0 ag1 aX1 an1 ac1 ae1 ag2 aX2 an2 ac2 ae2 ag3 aX3 an3 ac3 ae3 Q hQ wr
      have i1 : (0 : Int) ≤ k := by omega
      have i2 : (k : Int) < n := by omega
      cases Q with
      | true =>
        clear hrel1 hl1 hx1 h0 h1 hQ hb1
        go_wp2_with (go_at_call 30; refine hc.mono ?_; rintro en w6 ⟨rfl, hb6⟩)
        go_ret
        exact ⟨true, rfl, hB.trans (hb6.mono hB.size), fun h => by cases h⟩
      | false =>
        obtain ⟨b0, b1, b2, b3⟩ := grM_no hQ
        have h0' : Hid (fine (l.take (k + 1))) := Lib.hid (fun x hx => by
          rw [← take_more hl1] at hx
          rcases List.mem_append.1 hx with h | h
          · exact h0.out x h
          · rw [List.mem_singleton.1 h]
            exact ⟨by rw [hx1.1.2.2.1]; exact b0, by rw [hx1.2.1.2.2.1]; exact b1, by rw [hx1.2.2.1.2.2.1]; exact b2, by rw [hx1.2.2.2.2.2.1]; exact b3⟩)
        clear hrel1 hl1 hx1 h0 h1 hQ hb1
        go_wp2_with (go_at_call 30; refine hc.mono ?_; rintro en w6 ⟨rfl, hb6⟩)
        go_roundw
        case rel => exact ⟨k + 1, by omega, by go_num, h0', hB.trans (hb6.mono hB.size)⟩
        case measure => simp [intOf]; omega
    · obtain rfl : k = n := by omega
      have hf := h0.out
      rw [List.take_of_length_le (by rw [gln.out]; exact Nat.le_refl _)] at hf
      have gf := Lib.hid hf
      clear h0 h1 hf
      go_wp2
      go_ret
      exact ⟨false, rfl, hB, fun _ => ⟨by rw [gln.out]; exact hn, gf.out⟩⟩
end Go.Proofs.YtdmjdpaehnhdoaaDoor
