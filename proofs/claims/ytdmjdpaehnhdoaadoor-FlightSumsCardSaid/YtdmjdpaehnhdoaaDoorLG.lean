/- Flight: whether two rows of loads are the same: the reference's answer -/
import Derived.Test.YtdmjdpaehnhdoaaDoorLF
namespace Go.Proofs.YtdmjdpaehnhdoaaDoor
open Go.ChangeShapes Go.WideShapes Go.ChangeAt Go.RowKit
set_option linter.unusedSimpArgs false
set_option linter.unusedVariables false
set_option maxHeartbeats 4000000 in
theorem rone_any (nu ep cp nu2 ep2 cp2 : Int) (ag0 : Bool) (aX0 : Option Addr) (an0 ac0 : Nat) (ae0 : Int) (ag1 : Bool) (aX1 : Option Addr) (an1 ac1 : Nat) (ae1 : Int) (ag2 : Bool) (aX2 : Option Addr) (an2 ac2 : Nat) (ae2 : Int) (ag3 : Bool) (aX3 : Option Addr) (an3 ac3 : Nat) (ae3 : Int) (bg0 : Bool) (bX0 : Option Addr) (bn0 bc0 : Nat) (be0 : Int) (bg1 : Bool) (bX1 : Option Addr) (bn1 bc1 : Nat) (be1 : Int) (bg2 : Bool) (bX2 : Option Addr) (bn2 bc2 : Nat) (be2 : Int) (bg3 : Bool) (bX3 : Option Addr) (bn3 bc3 : Nat) (be3 : Int) (m k : Ms) (hsm : smM m) (hsk : smM k) (R : Bool) (hR : decide ((⟨nu, ep, cp, m⟩ : En) = ⟨nu2, ep2, cp2, k⟩) = R) (w : World) (ra : RdM w w.heap.size ag0 aX0 an0 ac0 ae0 ag1 aX1 an1 ac1 ae1 ag2 aX2 an2 ac2 ae2 ag3 aX3 an3 ac3 ae3 m) (rb : RdM w w.heap.size bg0 bX0 bn0 bc0 be0 bg1 bX1 bn1 bc1 be1 bg2 bX2 bn2 bc2 be2 bg3 bX3 bn3 bc3 be3 k) :
    Calls Tryd.prog 41 #[.agg #[.int .i64 nu, .int .i64 ep, .int .i64 cp, .bool ag0, .slice aX0 an0 ac0, .int .i64 ae0, .bool ag1, .slice aX1 an1 ac1, .int .i64 ae1, .bool ag2, .slice aX2 an2 ac2, .int .i64 ae2, .bool ag3, .slice aX3 an3 ac3, .int .i64 ae3], .agg #[.int .i64 nu2, .int .i64 ep2, .int .i64 cp2, .bool bg0, .slice bX0 bn0 bc0, .int .i64 be0, .bool bg1, .slice bX1 bn1 bc1, .int .i64 be1, .bool bg2, .slice bX2 bn2 bc2, .int .i64 be2, .bool bg3, .slice bX3 bn3 bc3, .int .i64 be3]] w fun en w' => en = .returned (.bool R) ∧ Below w.heap.size w w' := by
  have hB := ((Below.refl w.heap.size w).alloc (Nat.le_refl _) (.cells #[.int .i64 nu, .int .i64 ep, .int .i64 cp, .bool ag0, .slice aX0 an0 ac0, .int .i64 ae0, .bool ag1, .slice aX1 an1 ac1, .int .i64 ae1, .bool ag2, .slice aX2 an2 ac2, .int .i64 ae2, .bool ag3, .slice aX3 an3 ac3, .int .i64 ae3] 48)).alloc (by simp) (.cells #[.int .i64 nu2, .int .i64 ep2, .int .i64 cp2, .bool bg0, .slice bX0 bn0 bc0, .int .i64 be0, .bool bg1, .slice bX1 bn1 bc1, .int .i64 be1, .bool bg2, .slice bX2 bn2 bc2, .int .i64 be2, .bool bg3, .slice bX3 bn3 bc3, .int .i64 be3] 48)
  by_cases ha : nu = nu2
  rotate_left
  · obtain rfl : false = R := by rw [← hR]; exact (decide_eq_false (fun h => ha (by injection h))).symm
    have t1 : (nu == nu2) = false := beq_eq_false_iff_ne.2 ha
    clear hR ha ra rb hsm hsk
    go_enter Tryd.func41, Tryd.ntmps41
    go_wp2
    go_ret
    exact ⟨rfl, hB⟩
  by_cases he : ep = ep2
  rotate_left
  · obtain rfl : false = R := by rw [← hR]; exact (decide_eq_false (fun h => he (by injection h))).symm
    have t1 : (nu == nu2) = true := beq_iff_eq.2 ha
    have t2 : (ep == ep2) = false := beq_eq_false_iff_ne.2 he
    clear hR he ha ra rb hsm hsk
    go_enter Tryd.func41, Tryd.ntmps41
    go_wp2
    go_ret
    exact ⟨rfl, hB⟩
  by_cases hw : cp = cp2
  rotate_left
  · obtain rfl : false = R := by rw [← hR]; exact (decide_eq_false (fun h => hw (by injection h))).symm
    have t1 : (nu == nu2) = true := beq_iff_eq.2 ha
    have t2 : (ep == ep2) = true := beq_iff_eq.2 he
    have t3 : (cp == cp2) = false := beq_eq_false_iff_ne.2 hw
    clear hR hw he ha ra rb hsm hsk
    go_enter Tryd.func41, Tryd.ntmps41
    go_wp2
    go_ret
    exact ⟨rfl, hB⟩
  have hf : decide ((⟨nu, ep, cp, m⟩ : En) = ⟨nu2, ep2, cp2, k⟩) = decide (m = k) := by rw [ha, he, hw]; simp
  rw [hf] at hR
  have t1 : (nu == nu2) = true := beq_iff_eq.2 ha
  have t2 : (ep == ep2) = true := beq_iff_eq.2 he
  have t3 : (cp == cp2) = true := beq_iff_eq.2 hw
  have hc := rmsame_any ag0 aX0 an0 ac0 ae0 ag1 aX1 an1 ac1 ae1 ag2 aX2 an2 ac2 ae2 ag3 aX3 an3 ac3 ae3 bg0 bX0 bn0 bc0 be0 bg1 bX1 bn1 bc1 be1 bg2 bX2 bn2 bc2 be2 bg3 bX3 bn3 bc3 be3 m k hsm hsk _ (ra.below hB hB.size) (rb.below hB hB.size) R hR
  clear hf hR ha he hw ra rb hsm hsk
  go_enter Tryd.func41, Tryd.ntmps41
  go_wp2_with (go_at_call 15; refine hc.mono ?_; rintro en w' ⟨rfl, hb⟩)
  go_ret
  exact ⟨rfl, hB.trans (hb.mono hB.size)⟩
set_option maxRecDepth 100000 in
set_option maxHeartbeats 8000000 in
theorem rsame_any (A A2 : Option Addr) (n n2 c c2 : Nat) (l l2 : List En) (hm : n ≤ 10000) (hm2 : n2 ≤ 10000) (hs1 : ∀ x ∈ l, smM x.give) (hs2 : ∀ x ∈ l2, smM x.give) (R : Bool) (hR : decide (l = l2) = R) (w : World) (h1 : Ens w w.heap.size A n l) (h2 : Ens w w.heap.size A2 n2 l2) :
    Calls Tryd.prog 16 #[.slice A n c, .slice A2 n2 c2] w fun en w' => en = .returned (.bool R) ∧ Below w.heap.size w w' := by
  have ln1 := ens_len h1
  have ln2 := ens_len h2
  by_cases hlen : n = n2
  rotate_left
  · obtain rfl : false = R := by rw [← hR]; exact (decide_eq_false (fun e => hlen (by rw [← ln1, ← ln2, e]))).symm
    have t1 : ((n : Int) != n2) = true := by simp; omega
    have t2 : (n != n2) = true := by simp; omega
    clear hR h1 h2 hs1 hs2 ln1 ln2 hlen
    go_enter Tryd.func16, Tryd.ntmps16
    go_wp2
    go_ret
    exact ⟨rfl, Below.refl _ _⟩
  subst hlen
  have gno : Hid (∀ k : Nat, l[k]? ≠ l2[k]? → R = false) := Lib.hid (fun k h => by rw [← hR]; exact decide_eq_false (fun e => h (by rw [e])))
  have gyes : Hid ((∀ k : Nat, k < n → l[k]? = l2[k]?) → R = true) := Lib.hid (fun h => by
    rw [← hR]
    refine decide_eq_true (List.ext_getElem? fun i => ?_)
    rcases Nat.lt_or_ge i n with h3 | h3
    · exact h i h3
    · rw [List.getElem?_eq_none (by omega), List.getElem?_eq_none (by omega)])
  have t1 : ((n : Int) != n) = false := by simp
  have hB0 := Below.refl w.heap.size w
  clear hR ln1 ln2
  go_enter Tryd.func16, Tryd.ntmps16
  go_wp2
  go_loopw [5] (fun t wr => ∃ k : Nat, k ≤ n ∧ t = .int .i64 (k : Int) ∧ Hid (∀ j : Nat, j < k → l[j]? = l2[j]?) ∧ Below w.heap.size w wr) (fun t _ => n - (intOf t).toNat)
  case atStart => exact ⟨0, Nat.zero_le _, rfl, Lib.hid (fun j h => by omega), hB0⟩
  case round =>
    obtain ⟨k, hk, rfl, h0, hB⟩ := hrel
    by_cases hlt : k < n
    · obtain ⟨ad, nu, ep, cp, ag0, aX0, an0, ac0, ae0, ag1, aX1, an1, ac1, ae1, ag2, aX2, an2, ac2, ae2, ag3, aX3, an3, ac3, ae3, m, rfl, hb1, hl1, hx1, hrel1⟩ := ens_rel h1 hlt
      obtain ⟨ad2, nu2, ep2, cp2, bg0, bX0, bn0, bc0, be0, bg1, bX1, bn1, bc1, be1, bg2, bX2, bn2, bc2, be2, bg3, bX3, bn3, bc3, be3, m2, rfl, hb2, hl2, hx2, hrel2⟩ := ens_rel h2 hlt
      have q1 : smM m := hs1 _ (List.mem_of_getElem? hl1)
      have q2 : smM m2 := hs2 _ (List.mem_of_getElem? hl2)
      obtain ⟨Q, hQ⟩ : ∃ Q, decide ((⟨nu, ep, cp, m⟩ : En) = ⟨nu2, ep2, cp2, m2⟩) = Q := ⟨_, rfl⟩
      have hal : ∀ w', Below w.heap.size w w' → Calls Tryd.prog 41 #[.agg #[.int .i64 nu, .int .i64 ep, .int .i64 cp, .bool ag0, .slice aX0 an0 ac0, .int .i64 ae0, .bool ag1, .slice aX1 an1 ac1, .int .i64 ae1, .bool ag2, .slice aX2 an2 ac2, .int .i64 ae2, .bool ag3, .slice aX3 an3 ac3, .int .i64 ae3], .agg #[.int .i64 nu2, .int .i64 ep2, .int .i64 cp2, .bool bg0, .slice bX0 bn0 bc0, .int .i64 be0, .bool bg1, .slice bX1 bn1 bc1, .int .i64 be1, .bool bg2, .slice bX2 bn2 bc2, .int .i64 be2, .bool bg3, .slice bX3 bn3 bc3, .int .i64 be3]] w' (fun en w'' => en = .returned (.bool Q) ∧ Below w.heap.size w w'') := fun w' hw =>
        (rone_any nu ep cp nu2 ep2 cp2 ag0 aX0 an0 ac0 ae0 ag1 aX1 an1 ac1 ae1 ag2 aX2 an2 ac2 ae2 ag3 aX3 an3 ac3 ae3 bg0 bX0 bn0 bc0 be0 bg1 bX1 bn1 bc1 be1 bg2 bX2 bn2 bc2 be2 bg3 bX3 bn3 bc3 be3 m m2 q1 q2 Q hQ w' (hrel1 w' hw).1 (hrel2 w' hw).1).mono fun en w'' h => ⟨h.1, hw.trans (h.2.mono hw.size)⟩
      have i1 : (0 : Int) ≤ k := by omega
      have i2 : (k : Int) < n := by omega
      have hQ2 : Hid (Q = true → ∀ j : Nat, j < k + 1 → l[j]? = l2[j]?) := Lib.hid (fun hq j hj => by
        rcases Nat.lt_or_ge j k with h | h
        · exact h0.out j h
        · rw [show j = k by omega, hl1, hl2]
          rw [hq] at hQ
          rw [of_decide_eq_true hQ])
      have hQ3 : Hid (Q = false → R = false) := Lib.hid (fun hq => gno.out k (by
        rw [hl1, hl2]
        rw [hq] at hQ
        intro e
        injection e with e
        exact of_decide_eq_false hQ e))
      have SS : ∀ w', Below w.heap.size w w' → w'.cell? (ad.add (k * 15)) = some (.int .i64 nu) ∧ w'.cell? ⟨(ad.add (k * 15)).block, (ad.add (k * 15)).off + 1, none⟩ = some (.int .i64 ep) ∧ w'.cell? ⟨(ad.add (k * 15)).block, (ad.add (k * 15)).off + 2, none⟩ = some (.int .i64 cp) ∧ w'.cell? ⟨(ad.add (k * 15)).block, (ad.add (k * 15)).off + 3, none⟩ = some (.bool ag0) ∧ w'.cell? ⟨(ad.add (k * 15)).block, (ad.add (k * 15)).off + 4, none⟩ = some (.slice aX0 an0 ac0) ∧ w'.cell? ⟨(ad.add (k * 15)).block, (ad.add (k * 15)).off + 5, none⟩ = some (.int .i64 ae0) ∧ w'.cell? ⟨(ad.add (k * 15)).block, (ad.add (k * 15)).off + 6, none⟩ = some (.bool ag1) ∧ w'.cell? ⟨(ad.add (k * 15)).block, (ad.add (k * 15)).off + 7, none⟩ = some (.slice aX1 an1 ac1) ∧ w'.cell? ⟨(ad.add (k * 15)).block, (ad.add (k * 15)).off + 8, none⟩ = some (.int .i64 ae1) ∧ w'.cell? ⟨(ad.add (k * 15)).block, (ad.add (k * 15)).off + 9, none⟩ = some (.bool ag2) ∧ w'.cell? ⟨(ad.add (k * 15)).block, (ad.add (k * 15)).off + 10, none⟩ = some (.slice aX2 an2 ac2) ∧ w'.cell? ⟨(ad.add (k * 15)).block, (ad.add (k * 15)).off + 11, none⟩ = some (.int .i64 ae2) ∧ w'.cell? ⟨(ad.add (k * 15)).block, (ad.add (k * 15)).off + 12, none⟩ = some (.bool ag3) ∧ w'.cell? ⟨(ad.add (k * 15)).block, (ad.add (k * 15)).off + 13, none⟩ = some (.slice aX3 an3 ac3) ∧ w'.cell? ⟨(ad.add (k * 15)).block, (ad.add (k * 15)).off + 14, none⟩ = some (.int .i64 ae3) ∧ w'.cell? (ad2.add (k * 15)) = some (.int .i64 nu2) ∧ w'.cell? ⟨(ad2.add (k * 15)).block, (ad2.add (k * 15)).off + 1, none⟩ = some (.int .i64 ep2) ∧ w'.cell? ⟨(ad2.add (k * 15)).block, (ad2.add (k * 15)).off + 2, none⟩ = some (.int .i64 cp2) ∧ w'.cell? ⟨(ad2.add (k * 15)).block, (ad2.add (k * 15)).off + 3, none⟩ = some (.bool bg0) ∧ w'.cell? ⟨(ad2.add (k * 15)).block, (ad2.add (k * 15)).off + 4, none⟩ = some (.slice bX0 bn0 bc0) ∧ w'.cell? ⟨(ad2.add (k * 15)).block, (ad2.add (k * 15)).off + 5, none⟩ = some (.int .i64 be0) ∧ w'.cell? ⟨(ad2.add (k * 15)).block, (ad2.add (k * 15)).off + 6, none⟩ = some (.bool bg1) ∧ w'.cell? ⟨(ad2.add (k * 15)).block, (ad2.add (k * 15)).off + 7, none⟩ = some (.slice bX1 bn1 bc1) ∧ w'.cell? ⟨(ad2.add (k * 15)).block, (ad2.add (k * 15)).off + 8, none⟩ = some (.int .i64 be1) ∧ w'.cell? ⟨(ad2.add (k * 15)).block, (ad2.add (k * 15)).off + 9, none⟩ = some (.bool bg2) ∧ w'.cell? ⟨(ad2.add (k * 15)).block, (ad2.add (k * 15)).off + 10, none⟩ = some (.slice bX2 bn2 bc2) ∧ w'.cell? ⟨(ad2.add (k * 15)).block, (ad2.add (k * 15)).off + 11, none⟩ = some (.int .i64 be2) ∧ w'.cell? ⟨(ad2.add (k * 15)).block, (ad2.add (k * 15)).off + 12, none⟩ = some (.bool bg3) ∧ w'.cell? ⟨(ad2.add (k * 15)).block, (ad2.add (k * 15)).off + 13, none⟩ = some (.slice bX3 bn3 bc3) ∧ w'.cell? ⟨(ad2.add (k * 15)).block, (ad2.add (k * 15)).off + 14, none⟩ = some (.int .i64 be3) := fun w' h => by
        obtain ⟨a0, a1, a2, a3, a4, a5, a6, a7, a8, a9, a10, a11, a12, a13, a14⟩ := (hrel1 w' h).2
        obtain ⟨b0, b1, b2, b3, b4, b5, b6, b7, b8, b9, b10, b11, b12, b13, b14⟩ := (hrel2 w' h).2
        exact ⟨a0, a1, a2, a3, a4, a5, a6, a7, a8, a9, a10, a11, a12, a13, a14, b0, b1, b2, b3, b4, b5, b6, b7, b8, b9, b10, b11, b12, b13, b14⟩
      clear hl1 hl2 hx1 hx2 hrel1 hrel2 hQ h0 h1 h2 hs1 hs2 gno q1 q2
      cases Q
      · obtain rfl := hQ3.out rfl
        clear gyes hQ2 hQ3
        go_upto_region 6 with (fail)
        have hBc : Below w.heap.size w wr.drew := hB.drew
        go_cut [26] (fun t wx => t = .bool (!false) ∧ Below w.heap.size w wx)
        case first =>
          skip
          go_region_held3 (fun w' => w'.cell? (ad.add (k * 15)) = some (.int .i64 nu) ∧ w'.cell? ⟨(ad.add (k * 15)).block, (ad.add (k * 15)).off + 1, none⟩ = some (.int .i64 ep) ∧ w'.cell? ⟨(ad.add (k * 15)).block, (ad.add (k * 15)).off + 2, none⟩ = some (.int .i64 cp) ∧ w'.cell? ⟨(ad.add (k * 15)).block, (ad.add (k * 15)).off + 3, none⟩ = some (.bool ag0) ∧ w'.cell? ⟨(ad.add (k * 15)).block, (ad.add (k * 15)).off + 4, none⟩ = some (.slice aX0 an0 ac0) ∧ w'.cell? ⟨(ad.add (k * 15)).block, (ad.add (k * 15)).off + 5, none⟩ = some (.int .i64 ae0) ∧ w'.cell? ⟨(ad.add (k * 15)).block, (ad.add (k * 15)).off + 6, none⟩ = some (.bool ag1) ∧ w'.cell? ⟨(ad.add (k * 15)).block, (ad.add (k * 15)).off + 7, none⟩ = some (.slice aX1 an1 ac1) ∧ w'.cell? ⟨(ad.add (k * 15)).block, (ad.add (k * 15)).off + 8, none⟩ = some (.int .i64 ae1) ∧ w'.cell? ⟨(ad.add (k * 15)).block, (ad.add (k * 15)).off + 9, none⟩ = some (.bool ag2) ∧ w'.cell? ⟨(ad.add (k * 15)).block, (ad.add (k * 15)).off + 10, none⟩ = some (.slice aX2 an2 ac2) ∧ w'.cell? ⟨(ad.add (k * 15)).block, (ad.add (k * 15)).off + 11, none⟩ = some (.int .i64 ae2) ∧ w'.cell? ⟨(ad.add (k * 15)).block, (ad.add (k * 15)).off + 12, none⟩ = some (.bool ag3) ∧ w'.cell? ⟨(ad.add (k * 15)).block, (ad.add (k * 15)).off + 13, none⟩ = some (.slice aX3 an3 ac3) ∧ w'.cell? ⟨(ad.add (k * 15)).block, (ad.add (k * 15)).off + 14, none⟩ = some (.int .i64 ae3) ∧ w'.cell? (ad2.add (k * 15)) = some (.int .i64 nu2) ∧ w'.cell? ⟨(ad2.add (k * 15)).block, (ad2.add (k * 15)).off + 1, none⟩ = some (.int .i64 ep2) ∧ w'.cell? ⟨(ad2.add (k * 15)).block, (ad2.add (k * 15)).off + 2, none⟩ = some (.int .i64 cp2) ∧ w'.cell? ⟨(ad2.add (k * 15)).block, (ad2.add (k * 15)).off + 3, none⟩ = some (.bool bg0) ∧ w'.cell? ⟨(ad2.add (k * 15)).block, (ad2.add (k * 15)).off + 4, none⟩ = some (.slice bX0 bn0 bc0) ∧ w'.cell? ⟨(ad2.add (k * 15)).block, (ad2.add (k * 15)).off + 5, none⟩ = some (.int .i64 be0) ∧ w'.cell? ⟨(ad2.add (k * 15)).block, (ad2.add (k * 15)).off + 6, none⟩ = some (.bool bg1) ∧ w'.cell? ⟨(ad2.add (k * 15)).block, (ad2.add (k * 15)).off + 7, none⟩ = some (.slice bX1 bn1 bc1) ∧ w'.cell? ⟨(ad2.add (k * 15)).block, (ad2.add (k * 15)).off + 8, none⟩ = some (.int .i64 be1) ∧ w'.cell? ⟨(ad2.add (k * 15)).block, (ad2.add (k * 15)).off + 9, none⟩ = some (.bool bg2) ∧ w'.cell? ⟨(ad2.add (k * 15)).block, (ad2.add (k * 15)).off + 10, none⟩ = some (.slice bX2 bn2 bc2) ∧ w'.cell? ⟨(ad2.add (k * 15)).block, (ad2.add (k * 15)).off + 11, none⟩ = some (.int .i64 be2) ∧ w'.cell? ⟨(ad2.add (k * 15)).block, (ad2.add (k * 15)).off + 12, none⟩ = some (.bool bg3) ∧ w'.cell? ⟨(ad2.add (k * 15)).block, (ad2.add (k * 15)).off + 13, none⟩ = some (.slice bX3 bn3 bc3) ∧ w'.cell? ⟨(ad2.add (k * 15)).block, (ad2.add (k * 15)).off + 14, none⟩ = some (.int .i64 be3)) (exact SS _ hBc) (first
            | (go_at_call 41; (with_reducible refine (hal _ hBc).mono ?_); rintro en w6 ⟨rfl, hb6⟩; replace hBc := hb6))
          all_goals go_wp2_with fail
          all_goals go_meet
          all_goals exact ⟨rfl, hBc⟩
        case rest =>
          obtain ⟨rfl, hB6⟩ := hcut
          clear hal hB SS hBc
          go_wp2
          go_ret
          exact ⟨rfl, hB6⟩
      · have h0' := Lib.hid (hQ2.out rfl)
        clear hQ2 hQ3 gyes
        go_upto_region 6 with (fail)
        have hBc : Below w.heap.size w wr.drew := hB.drew
        go_cut [26] (fun t wx => t = .bool (!true) ∧ Below w.heap.size w wx)
        case first =>
          clear h0'
          go_region_held3 (fun w' => w'.cell? (ad.add (k * 15)) = some (.int .i64 nu) ∧ w'.cell? ⟨(ad.add (k * 15)).block, (ad.add (k * 15)).off + 1, none⟩ = some (.int .i64 ep) ∧ w'.cell? ⟨(ad.add (k * 15)).block, (ad.add (k * 15)).off + 2, none⟩ = some (.int .i64 cp) ∧ w'.cell? ⟨(ad.add (k * 15)).block, (ad.add (k * 15)).off + 3, none⟩ = some (.bool ag0) ∧ w'.cell? ⟨(ad.add (k * 15)).block, (ad.add (k * 15)).off + 4, none⟩ = some (.slice aX0 an0 ac0) ∧ w'.cell? ⟨(ad.add (k * 15)).block, (ad.add (k * 15)).off + 5, none⟩ = some (.int .i64 ae0) ∧ w'.cell? ⟨(ad.add (k * 15)).block, (ad.add (k * 15)).off + 6, none⟩ = some (.bool ag1) ∧ w'.cell? ⟨(ad.add (k * 15)).block, (ad.add (k * 15)).off + 7, none⟩ = some (.slice aX1 an1 ac1) ∧ w'.cell? ⟨(ad.add (k * 15)).block, (ad.add (k * 15)).off + 8, none⟩ = some (.int .i64 ae1) ∧ w'.cell? ⟨(ad.add (k * 15)).block, (ad.add (k * 15)).off + 9, none⟩ = some (.bool ag2) ∧ w'.cell? ⟨(ad.add (k * 15)).block, (ad.add (k * 15)).off + 10, none⟩ = some (.slice aX2 an2 ac2) ∧ w'.cell? ⟨(ad.add (k * 15)).block, (ad.add (k * 15)).off + 11, none⟩ = some (.int .i64 ae2) ∧ w'.cell? ⟨(ad.add (k * 15)).block, (ad.add (k * 15)).off + 12, none⟩ = some (.bool ag3) ∧ w'.cell? ⟨(ad.add (k * 15)).block, (ad.add (k * 15)).off + 13, none⟩ = some (.slice aX3 an3 ac3) ∧ w'.cell? ⟨(ad.add (k * 15)).block, (ad.add (k * 15)).off + 14, none⟩ = some (.int .i64 ae3) ∧ w'.cell? (ad2.add (k * 15)) = some (.int .i64 nu2) ∧ w'.cell? ⟨(ad2.add (k * 15)).block, (ad2.add (k * 15)).off + 1, none⟩ = some (.int .i64 ep2) ∧ w'.cell? ⟨(ad2.add (k * 15)).block, (ad2.add (k * 15)).off + 2, none⟩ = some (.int .i64 cp2) ∧ w'.cell? ⟨(ad2.add (k * 15)).block, (ad2.add (k * 15)).off + 3, none⟩ = some (.bool bg0) ∧ w'.cell? ⟨(ad2.add (k * 15)).block, (ad2.add (k * 15)).off + 4, none⟩ = some (.slice bX0 bn0 bc0) ∧ w'.cell? ⟨(ad2.add (k * 15)).block, (ad2.add (k * 15)).off + 5, none⟩ = some (.int .i64 be0) ∧ w'.cell? ⟨(ad2.add (k * 15)).block, (ad2.add (k * 15)).off + 6, none⟩ = some (.bool bg1) ∧ w'.cell? ⟨(ad2.add (k * 15)).block, (ad2.add (k * 15)).off + 7, none⟩ = some (.slice bX1 bn1 bc1) ∧ w'.cell? ⟨(ad2.add (k * 15)).block, (ad2.add (k * 15)).off + 8, none⟩ = some (.int .i64 be1) ∧ w'.cell? ⟨(ad2.add (k * 15)).block, (ad2.add (k * 15)).off + 9, none⟩ = some (.bool bg2) ∧ w'.cell? ⟨(ad2.add (k * 15)).block, (ad2.add (k * 15)).off + 10, none⟩ = some (.slice bX2 bn2 bc2) ∧ w'.cell? ⟨(ad2.add (k * 15)).block, (ad2.add (k * 15)).off + 11, none⟩ = some (.int .i64 be2) ∧ w'.cell? ⟨(ad2.add (k * 15)).block, (ad2.add (k * 15)).off + 12, none⟩ = some (.bool bg3) ∧ w'.cell? ⟨(ad2.add (k * 15)).block, (ad2.add (k * 15)).off + 13, none⟩ = some (.slice bX3 bn3 bc3) ∧ w'.cell? ⟨(ad2.add (k * 15)).block, (ad2.add (k * 15)).off + 14, none⟩ = some (.int .i64 be3)) (exact SS _ hBc) (first
            | (go_at_call 41; (with_reducible refine (hal _ hBc).mono ?_); rintro en w6 ⟨rfl, hb6⟩; replace hBc := hb6))
          all_goals go_wp2_with fail
          all_goals go_meet
          all_goals exact ⟨rfl, hBc⟩
        case rest =>
          obtain ⟨rfl, hB6⟩ := hcut
          clear hal hB SS hBc
          go_wp2
          go_roundw
          case rel => exact ⟨k + 1, by omega, by go_num, h0', hB6⟩
          case measure => simp [intOf] <;> omega
    · obtain rfl : k = n := by omega
      obtain rfl := gyes.out h0.out
      clear h0 h1 h2 hs1 hs2 gno gyes hB0
      go_wp2
      go_ret
      exact ⟨rfl, hB⟩
end Go.Proofs.YtdmjdpaehnhdoaaDoor
