/- Ledger: whether two rows of entries are the same: the reference's answer -/
import Derived.Test.YtmppalgecboeeaaDoorLF
namespace Go.Proofs.YtmppalgecboeeaaDoor
open Go.ChangeShapes Go.WideShapes Go.ChangeAt Go.RowKit
set_option linter.unusedSimpArgs false
set_option linter.unusedVariables false
set_option maxHeartbeats 4000000 in
theorem resame_any (A A2 : Option Addr) (n n2 c c2 : Nat) (l l2 : List En) (hm : n ≤ 10000) (hm2 : n2 ≤ 10000) (hs1 : ∀ x ∈ l, smM x.give) (hs2 : ∀ x ∈ l2, smM x.give) (R : Bool) (hR : decide (l = l2) = R) (w : World) (h1 : Ens w w.heap.size A n l) (h2 : Ens w w.heap.size A2 n2 l2) :
    Calls Tryd.prog 19 #[.slice A n c, .slice A2 n2 c2] w fun en w' => en = .returned (.bool R) ∧ Below w.heap.size w w' := by
  have ln1 := ens_len h1
  have ln2 := ens_len h2
  by_cases hlen : n = n2
  rotate_left
  · obtain rfl : false = R := by rw [← hR]; exact (decide_eq_false (fun e => hlen (by rw [← ln1, ← ln2, e]))).symm
    have t1 : ((n : Int) != n2) = true := by simp; omega
    have t2 : (n != n2) = true := by simp; omega
    clear hR h1 h2 hs1 hs2 ln1 ln2 hlen
    go_enter Tryd.func19, Tryd.ntmps19
    go_wp2
    go_ret
    exact ⟨rfl, Below.refl _ _⟩
  subst hlen
  have gno : Hid (∀ k : Nat, l[k]? ≠ l2[k]? → R = false) := Lib.hid (fun k h => by rw [← hR]; exact decide_eq_false (fun e => h (by rw [e])))
  have gyes : Hid ((∀ k : Nat, k < n → l[k]? = l2[k]?) → R = true) := Lib.hid (fun h => by
    rw [← hR]
    refine decide_eq_true (List.ext_getElem? fun i => ?_)
    rcases Nat.lt_or_ge i n with h3 | h3
    · exact h i h3
    · rw [List.getElem?_eq_none (by omega), List.getElem?_eq_none (by omega)])
  have t1 : ((n : Int) != n) = false := by simp
  have hB0 := Below.refl w.heap.size w
  clear hR ln1 ln2
  go_enter Tryd.func19, Tryd.ntmps19
  go_wp2
  go_loopw [5] (fun t wr => ∃ k : Nat, k ≤ n ∧ t = .int .i64 (k : Int) ∧ Hid (∀ j : Nat, j < k → l[j]? = l2[j]?) ∧ Below w.heap.size w wr) (fun t _ => n - (intOf t).toNat)
  case atStart => exact ⟨0, Nat.zero_le _, rfl, Lib.hid (fun j h => by omega), hB0⟩
  case round =>
    obtain ⟨k, hk, rfl, h0, hB⟩ := hrel
    by_cases hlt : k < n
    · obtain ⟨ad, ep, why, ag0, aX0, an0, ac0, ae0, ag1, aX1, an1, ac1, ae1, ag2, aX2, an2, ac2, ae2, ag3, aX3, an3, ac3, ae3, m, rfl, hb1, hl1, hx1, hrel1⟩ := ens_rel h1 hlt
      obtain ⟨ad2, ep2, why2, bg0, bX0, bn0, bc0, be0, bg1, bX1, bn1, bc1, be1, bg2, bX2, bn2, bc2, be2, bg3, bX3, bn3, bc3, be3, m2, rfl, hb2, hl2, hx2, hrel2⟩ := ens_rel h2 hlt
      have q1 : smM m := hs1 _ (List.mem_of_getElem? hl1)
      have q2 : smM m2 := hs2 _ (List.mem_of_getElem? hl2)
      obtain ⟨Q, hQ⟩ : ∃ Q, decide ((⟨ep, why, m⟩ : En) = ⟨ep2, why2, m2⟩) = Q := ⟨_, rfl⟩
      have i1 : (0 : Int) ≤ k := by omega
      have i2 : (k : Int) < n := by omega
      have hQ2 : Hid (Q = true → ∀ j : Nat, j < k + 1 → l[j]? = l2[j]?) := Lib.hid (fun hq j hj => by
        rcases Nat.lt_or_ge j k with h | h
        · exact h0.out j h
        · rw [show j = k by omega, hl1, hl2]
          rw [hq] at hQ
          rw [of_decide_eq_true hQ])
      have hQ3 : Hid (Q = false → R = false) := Lib.hid (fun hq => gno.out k (by
        rw [hl1, hl2]
        rw [hq] at hQ
        intro e
        injection e with e
        exact of_decide_eq_false hQ e))
      have SS : ∀ w', Below w.heap.size w w' → w'.cell? (ad.add (k * 14)) = some (.int .i64 ep) ∧ w'.cell? ⟨(ad.add (k * 14)).block, (ad.add (k * 14)).off + 1, none⟩ = some (.int .u8 why) ∧ w'.cell? ⟨(ad.add (k * 14)).block, (ad.add (k * 14)).off + 2, none⟩ = some (.bool ag0) ∧ w'.cell? ⟨(ad.add (k * 14)).block, (ad.add (k * 14)).off + 2 + 1, none⟩ = some (.slice aX0 an0 ac0) ∧ w'.cell? ⟨(ad.add (k * 14)).block, (ad.add (k * 14)).off + 2 + 2, none⟩ = some (.int .i64 ae0) ∧ w'.cell? ⟨(ad.add (k * 14)).block, (ad.add (k * 14)).off + 2 + 3, none⟩ = some (.bool ag1) ∧ w'.cell? ⟨(ad.add (k * 14)).block, (ad.add (k * 14)).off + 2 + 4, none⟩ = some (.slice aX1 an1 ac1) ∧ w'.cell? ⟨(ad.add (k * 14)).block, (ad.add (k * 14)).off + 2 + 5, none⟩ = some (.int .i64 ae1) ∧ w'.cell? ⟨(ad.add (k * 14)).block, (ad.add (k * 14)).off + 2 + 6, none⟩ = some (.bool ag2) ∧ w'.cell? ⟨(ad.add (k * 14)).block, (ad.add (k * 14)).off + 2 + 7, none⟩ = some (.slice aX2 an2 ac2) ∧ w'.cell? ⟨(ad.add (k * 14)).block, (ad.add (k * 14)).off + 2 + 8, none⟩ = some (.int .i64 ae2) ∧ w'.cell? ⟨(ad.add (k * 14)).block, (ad.add (k * 14)).off + 2 + 9, none⟩ = some (.bool ag3) ∧ w'.cell? ⟨(ad.add (k * 14)).block, (ad.add (k * 14)).off + 2 + 10, none⟩ = some (.slice aX3 an3 ac3) ∧ w'.cell? ⟨(ad.add (k * 14)).block, (ad.add (k * 14)).off + 2 + 11, none⟩ = some (.int .i64 ae3) ∧ w'.cell? (ad2.add (k * 14)) = some (.int .i64 ep2) ∧ w'.cell? ⟨(ad2.add (k * 14)).block, (ad2.add (k * 14)).off + 1, none⟩ = some (.int .u8 why2) ∧ w'.cell? ⟨(ad2.add (k * 14)).block, (ad2.add (k * 14)).off + 2, none⟩ = some (.bool bg0) ∧ w'.cell? ⟨(ad2.add (k * 14)).block, (ad2.add (k * 14)).off + 2 + 1, none⟩ = some (.slice bX0 bn0 bc0) ∧ w'.cell? ⟨(ad2.add (k * 14)).block, (ad2.add (k * 14)).off + 2 + 2, none⟩ = some (.int .i64 be0) ∧ w'.cell? ⟨(ad2.add (k * 14)).block, (ad2.add (k * 14)).off + 2 + 3, none⟩ = some (.bool bg1) ∧ w'.cell? ⟨(ad2.add (k * 14)).block, (ad2.add (k * 14)).off + 2 + 4, none⟩ = some (.slice bX1 bn1 bc1) ∧ w'.cell? ⟨(ad2.add (k * 14)).block, (ad2.add (k * 14)).off + 2 + 5, none⟩ = some (.int .i64 be1) ∧ w'.cell? ⟨(ad2.add (k * 14)).block, (ad2.add (k * 14)).off + 2 + 6, none⟩ = some (.bool bg2) ∧ w'.cell? ⟨(ad2.add (k * 14)).block, (ad2.add (k * 14)).off + 2 + 7, none⟩ = some (.slice bX2 bn2 bc2) ∧ w'.cell? ⟨(ad2.add (k * 14)).block, (ad2.add (k * 14)).off + 2 + 8, none⟩ = some (.int .i64 be2) ∧ w'.cell? ⟨(ad2.add (k * 14)).block, (ad2.add (k * 14)).off + 2 + 9, none⟩ = some (.bool bg3) ∧ w'.cell? ⟨(ad2.add (k * 14)).block, (ad2.add (k * 14)).off + 2 + 10, none⟩ = some (.slice bX3 bn3 bc3) ∧ w'.cell? ⟨(ad2.add (k * 14)).block, (ad2.add (k * 14)).off + 2 + 11, none⟩ = some (.int .i64 be3) := fun w' h => by
        obtain ⟨a0, a1, a2, a3, a4, a5, a6, a7, a8, a9, a10, a11, a12, a13⟩ := (hrel1 w' h).2
        obtain ⟨b0, b1, b2, b3, b4, b5, b6, b7, b8, b9, b10, b11, b12, b13⟩ := (hrel2 w' h).2
        exact ⟨a0, a1, a2, a3, a4, a5, a6, a7, a8, a9, a10, a11, a12, a13, b0, b1, b2, b3, b4, b5, b6, b7, b8, b9, b10, b11, b12, b13⟩
      have hk3 : Hid (Q = true → ep = ep2 ∧ why = why2 ∧ m = m2) := Lib.hid (fun hq => by
        rw [hq] at hQ
        have := of_decide_eq_true hQ
        injection this with e1 e2 e3
        exact ⟨e1, e2, e3⟩)
      have hk4 : Hid (ep = ep2 → why = why2 → decide (m = m2) = Q) := Lib.hid (fun h1 h2 => by rw [← hQ, h1, h2]; simp)
      have hal := fun w' (h : Below w.heap.size w w') (hm : decide (m = m2) = Q) => rmsame_any ag0 aX0 an0 ac0 ae0 ag1 aX1 an1 ac1 ae1 ag2 aX2 an2 ac2 ae2 ag3 aX3 an3 ac3 ae3 bg0 bX0 bn0 bc0 be0 bg1 bX1 bn1 bc1 be1 bg2 bX2 bn2 bc2 be2 bg3 bX3 bn3 bc3 be3 m m2 q1 q2 w' (hrel1 w' h).1 (hrel2 w' h).1 Q hm
      have hBd : Below w.heap.size w wr.drew := hB.drew
      clear hl1 hl2 hx1 hx2 hrel1 hrel2 hQ h0 h1 h2 hs1 hs2 gno hB0 q1 q2
      by_cases he : ep = ep2
      rotate_left
      · have t2 : (ep != ep2) = true := bne_iff_ne.2 he
        have hQf : Q = false := by cases Q; rfl; exact absurd (hk3.out rfl).1 he
        obtain rfl := hQ3.out hQf
        clear he hQf hQ2 hQ3 hk3 hk4 gyes hal
        go_wp2_with fail
        refine wp_region_noPanic ?_
        refine wp_region_held_drew (S := fun w' => w'.cell? (ad.add (k * 14)) = some (.int .i64 ep) ∧ w'.cell? ⟨(ad.add (k * 14)).block, (ad.add (k * 14)).off + 1, none⟩ = some (.int .u8 why) ∧ w'.cell? ⟨(ad.add (k * 14)).block, (ad.add (k * 14)).off + 2, none⟩ = some (.bool ag0) ∧ w'.cell? ⟨(ad.add (k * 14)).block, (ad.add (k * 14)).off + 2 + 1, none⟩ = some (.slice aX0 an0 ac0) ∧ w'.cell? ⟨(ad.add (k * 14)).block, (ad.add (k * 14)).off + 2 + 2, none⟩ = some (.int .i64 ae0) ∧ w'.cell? ⟨(ad.add (k * 14)).block, (ad.add (k * 14)).off + 2 + 3, none⟩ = some (.bool ag1) ∧ w'.cell? ⟨(ad.add (k * 14)).block, (ad.add (k * 14)).off + 2 + 4, none⟩ = some (.slice aX1 an1 ac1) ∧ w'.cell? ⟨(ad.add (k * 14)).block, (ad.add (k * 14)).off + 2 + 5, none⟩ = some (.int .i64 ae1) ∧ w'.cell? ⟨(ad.add (k * 14)).block, (ad.add (k * 14)).off + 2 + 6, none⟩ = some (.bool ag2) ∧ w'.cell? ⟨(ad.add (k * 14)).block, (ad.add (k * 14)).off + 2 + 7, none⟩ = some (.slice aX2 an2 ac2) ∧ w'.cell? ⟨(ad.add (k * 14)).block, (ad.add (k * 14)).off + 2 + 8, none⟩ = some (.int .i64 ae2) ∧ w'.cell? ⟨(ad.add (k * 14)).block, (ad.add (k * 14)).off + 2 + 9, none⟩ = some (.bool ag3) ∧ w'.cell? ⟨(ad.add (k * 14)).block, (ad.add (k * 14)).off + 2 + 10, none⟩ = some (.slice aX3 an3 ac3) ∧ w'.cell? ⟨(ad.add (k * 14)).block, (ad.add (k * 14)).off + 2 + 11, none⟩ = some (.int .i64 ae3) ∧ w'.cell? (ad2.add (k * 14)) = some (.int .i64 ep2) ∧ w'.cell? ⟨(ad2.add (k * 14)).block, (ad2.add (k * 14)).off + 1, none⟩ = some (.int .u8 why2) ∧ w'.cell? ⟨(ad2.add (k * 14)).block, (ad2.add (k * 14)).off + 2, none⟩ = some (.bool bg0) ∧ w'.cell? ⟨(ad2.add (k * 14)).block, (ad2.add (k * 14)).off + 2 + 1, none⟩ = some (.slice bX0 bn0 bc0) ∧ w'.cell? ⟨(ad2.add (k * 14)).block, (ad2.add (k * 14)).off + 2 + 2, none⟩ = some (.int .i64 be0) ∧ w'.cell? ⟨(ad2.add (k * 14)).block, (ad2.add (k * 14)).off + 2 + 3, none⟩ = some (.bool bg1) ∧ w'.cell? ⟨(ad2.add (k * 14)).block, (ad2.add (k * 14)).off + 2 + 4, none⟩ = some (.slice bX1 bn1 bc1) ∧ w'.cell? ⟨(ad2.add (k * 14)).block, (ad2.add (k * 14)).off + 2 + 5, none⟩ = some (.int .i64 be1) ∧ w'.cell? ⟨(ad2.add (k * 14)).block, (ad2.add (k * 14)).off + 2 + 6, none⟩ = some (.bool bg2) ∧ w'.cell? ⟨(ad2.add (k * 14)).block, (ad2.add (k * 14)).off + 2 + 7, none⟩ = some (.slice bX2 bn2 bc2) ∧ w'.cell? ⟨(ad2.add (k * 14)).block, (ad2.add (k * 14)).off + 2 + 8, none⟩ = some (.int .i64 be2) ∧ w'.cell? ⟨(ad2.add (k * 14)).block, (ad2.add (k * 14)).off + 2 + 9, none⟩ = some (.bool bg3) ∧ w'.cell? ⟨(ad2.add (k * 14)).block, (ad2.add (k * 14)).off + 2 + 10, none⟩ = some (.slice bX3 bn3 bc3) ∧ w'.cell? ⟨(ad2.add (k * 14)).block, (ad2.add (k * 14)).off + 2 + 11, none⟩ = some (.int .i64 be3)) (by kernel_rfl) (SS _ hBd) (fun hHeld => ?_)
        refine tkY 0 (h := ?_)
        (try simp only [Act.put, List.setIfInBounds_toArray, List.set_cons_zero, List.set_cons_succ])
        refine tkY 1 (h := ?_)
        (try simp only [Act.put, List.setIfInBounds_toArray, List.set_cons_zero, List.set_cons_succ])
        refine tkY 2 (h := ?_)
        (try simp only [Act.put, List.setIfInBounds_toArray, List.set_cons_zero, List.set_cons_succ])
        refine tkY 3 (h := ?_)
        (try simp only [Act.put, List.setIfInBounds_toArray, List.set_cons_zero, List.set_cons_succ])
        refine tkY 4 (h := ?_)
        (try simp only [Act.put, List.setIfInBounds_toArray, List.set_cons_zero, List.set_cons_succ])
        refine tkY 5 (h := ?_)
        (try simp only [Act.put, List.setIfInBounds_toArray, List.set_cons_zero, List.set_cons_succ])
        refine tkY 6 (h := ?_)
        (try simp only [Act.put, List.setIfInBounds_toArray, List.set_cons_zero, List.set_cons_succ])
        refine tkY 7 (h := ?_)
        (try simp only [Act.put, List.setIfInBounds_toArray, List.set_cons_zero, List.set_cons_succ])
        refine tkY 8 (h := ?_)
        (try simp only [Act.put, List.setIfInBounds_toArray, List.set_cons_zero, List.set_cons_succ])
        refine tkY 9 (h := ?_)
        (try simp only [Act.put, List.setIfInBounds_toArray, List.set_cons_zero, List.set_cons_succ])
        refine tkY 10 (h := ?_)
        (try simp only [Act.put, List.setIfInBounds_toArray, List.set_cons_zero, List.set_cons_succ])
        refine tkY 11 (h := ?_)
        (try simp only [Act.put, List.setIfInBounds_toArray, List.set_cons_zero, List.set_cons_succ])
        refine tkN 12 (h := ?_)
        (try simp only [Act.put, List.setIfInBounds_toArray, List.set_cons_zero, List.set_cons_succ])
        refine tkN 13 (h := ?_)
        (try simp only [Act.put, List.setIfInBounds_toArray, List.set_cons_zero, List.set_cons_succ])
        refine tkN 14 (h := ?_)
        (try simp only [Act.put, List.setIfInBounds_toArray, List.set_cons_zero, List.set_cons_succ])
        refine tkN 15 (h := ?_)
        (try simp only [Act.put, List.setIfInBounds_toArray, List.set_cons_zero, List.set_cons_succ])
        refine tkN 16 (h := ?_)
        (try simp only [Act.put, List.setIfInBounds_toArray, List.set_cons_zero, List.set_cons_succ])
        refine tkN 17 (h := ?_)
        (try simp only [Act.put, List.setIfInBounds_toArray, List.set_cons_zero, List.set_cons_succ])
        refine tkN 18 (h := ?_)
        (try simp only [Act.put, List.setIfInBounds_toArray, List.set_cons_zero, List.set_cons_succ])
        refine tkN 19 (h := ?_)
        (try simp only [Act.put, List.setIfInBounds_toArray, List.set_cons_zero, List.set_cons_succ])
        refine tkN 20 (h := ?_)
        (try simp only [Act.put, List.setIfInBounds_toArray, List.set_cons_zero, List.set_cons_succ])
        refine tkN 21 (h := ?_)
        (try simp only [Act.put, List.setIfInBounds_toArray, List.set_cons_zero, List.set_cons_succ])
        refine tkN 22 (h := ?_)
        (try simp only [Act.put, List.setIfInBounds_toArray, List.set_cons_zero, List.set_cons_succ])
        refine tkY 23 (h := ?_)
        (try simp only [Act.put, List.setIfInBounds_toArray, List.set_cons_zero, List.set_cons_succ])
        refine tkY 24 (h := ?_)
        (try simp only [Act.put, List.setIfInBounds_toArray, List.set_cons_zero, List.set_cons_succ])
        refine tkN 25 (h := ?_)
        (try simp only [Act.put, List.setIfInBounds_toArray, List.set_cons_zero, List.set_cons_succ])
        refine tkN 26 (h := ?_)
        (try simp only [Act.put, List.setIfInBounds_toArray, List.set_cons_zero, List.set_cons_succ])
        refine tkN 27 (h := ?_)
        (try simp only [Act.put, List.setIfInBounds_toArray, List.set_cons_zero, List.set_cons_succ])
        refine tkN 28 (h := ?_)
        (try simp only [Act.put, List.setIfInBounds_toArray, List.set_cons_zero, List.set_cons_succ])
        refine tkN 29 (h := ?_)
        (try simp only [Act.put, List.setIfInBounds_toArray, List.set_cons_zero, List.set_cons_succ])
        refine tkN 30 (h := ?_)
        (try simp only [Act.put, List.setIfInBounds_toArray, List.set_cons_zero, List.set_cons_succ])
        refine tkN 31 (h := ?_)
        (try simp only [Act.put, List.setIfInBounds_toArray, List.set_cons_zero, List.set_cons_succ])
        refine tkN 32 (h := ?_)
        (try simp only [Act.put, List.setIfInBounds_toArray, List.set_cons_zero, List.set_cons_succ])
        refine tkN 33 (h := ?_)
        (try simp only [Act.put, List.setIfInBounds_toArray, List.set_cons_zero, List.set_cons_succ])
        refine tkN 34 (h := ?_)
        (try simp only [Act.put, List.setIfInBounds_toArray, List.set_cons_zero, List.set_cons_succ])
        refine tkN 35 (h := ?_)
        (try simp only [Act.put, List.setIfInBounds_toArray, List.set_cons_zero, List.set_cons_succ])
        refine tkN 36 (h := ?_)
        (try simp only [Act.put, List.setIfInBounds_toArray, List.set_cons_zero, List.set_cons_succ])
        refine tkY 37 (h := ?_)
        (try simp only [Act.put, List.setIfInBounds_toArray, List.set_cons_zero, List.set_cons_succ])
        refine wpAnyH_done (by kernel_rfl) ?_ _
        refine NoPanic.normal ?_
        go_wp2
        go_ret
        exact ⟨rfl, hBd⟩
      by_cases hw : why = why2
      rotate_left
      · have t2 : (ep != ep2) = false := by rw [he]; simp
        have t3 : (why != why2) = true := bne_iff_ne.2 hw
        have hQf : Q = false := by cases Q; rfl; exact absurd (hk3.out rfl).2.1 hw
        obtain rfl := hQ3.out hQf
        clear he hw hQf hQ2 hQ3 hk3 hk4 gyes hal
        go_wp2_with fail
        refine wp_region_noPanic ?_
        refine wp_region_held_drew (S := fun w' => w'.cell? (ad.add (k * 14)) = some (.int .i64 ep) ∧ w'.cell? ⟨(ad.add (k * 14)).block, (ad.add (k * 14)).off + 1, none⟩ = some (.int .u8 why) ∧ w'.cell? ⟨(ad.add (k * 14)).block, (ad.add (k * 14)).off + 2, none⟩ = some (.bool ag0) ∧ w'.cell? ⟨(ad.add (k * 14)).block, (ad.add (k * 14)).off + 2 + 1, none⟩ = some (.slice aX0 an0 ac0) ∧ w'.cell? ⟨(ad.add (k * 14)).block, (ad.add (k * 14)).off + 2 + 2, none⟩ = some (.int .i64 ae0) ∧ w'.cell? ⟨(ad.add (k * 14)).block, (ad.add (k * 14)).off + 2 + 3, none⟩ = some (.bool ag1) ∧ w'.cell? ⟨(ad.add (k * 14)).block, (ad.add (k * 14)).off + 2 + 4, none⟩ = some (.slice aX1 an1 ac1) ∧ w'.cell? ⟨(ad.add (k * 14)).block, (ad.add (k * 14)).off + 2 + 5, none⟩ = some (.int .i64 ae1) ∧ w'.cell? ⟨(ad.add (k * 14)).block, (ad.add (k * 14)).off + 2 + 6, none⟩ = some (.bool ag2) ∧ w'.cell? ⟨(ad.add (k * 14)).block, (ad.add (k * 14)).off + 2 + 7, none⟩ = some (.slice aX2 an2 ac2) ∧ w'.cell? ⟨(ad.add (k * 14)).block, (ad.add (k * 14)).off + 2 + 8, none⟩ = some (.int .i64 ae2) ∧ w'.cell? ⟨(ad.add (k * 14)).block, (ad.add (k * 14)).off + 2 + 9, none⟩ = some (.bool ag3) ∧ w'.cell? ⟨(ad.add (k * 14)).block, (ad.add (k * 14)).off + 2 + 10, none⟩ = some (.slice aX3 an3 ac3) ∧ w'.cell? ⟨(ad.add (k * 14)).block, (ad.add (k * 14)).off + 2 + 11, none⟩ = some (.int .i64 ae3) ∧ w'.cell? (ad2.add (k * 14)) = some (.int .i64 ep2) ∧ w'.cell? ⟨(ad2.add (k * 14)).block, (ad2.add (k * 14)).off + 1, none⟩ = some (.int .u8 why2) ∧ w'.cell? ⟨(ad2.add (k * 14)).block, (ad2.add (k * 14)).off + 2, none⟩ = some (.bool bg0) ∧ w'.cell? ⟨(ad2.add (k * 14)).block, (ad2.add (k * 14)).off + 2 + 1, none⟩ = some (.slice bX0 bn0 bc0) ∧ w'.cell? ⟨(ad2.add (k * 14)).block, (ad2.add (k * 14)).off + 2 + 2, none⟩ = some (.int .i64 be0) ∧ w'.cell? ⟨(ad2.add (k * 14)).block, (ad2.add (k * 14)).off + 2 + 3, none⟩ = some (.bool bg1) ∧ w'.cell? ⟨(ad2.add (k * 14)).block, (ad2.add (k * 14)).off + 2 + 4, none⟩ = some (.slice bX1 bn1 bc1) ∧ w'.cell? ⟨(ad2.add (k * 14)).block, (ad2.add (k * 14)).off + 2 + 5, none⟩ = some (.int .i64 be1) ∧ w'.cell? ⟨(ad2.add (k * 14)).block, (ad2.add (k * 14)).off + 2 + 6, none⟩ = some (.bool bg2) ∧ w'.cell? ⟨(ad2.add (k * 14)).block, (ad2.add (k * 14)).off + 2 + 7, none⟩ = some (.slice bX2 bn2 bc2) ∧ w'.cell? ⟨(ad2.add (k * 14)).block, (ad2.add (k * 14)).off + 2 + 8, none⟩ = some (.int .i64 be2) ∧ w'.cell? ⟨(ad2.add (k * 14)).block, (ad2.add (k * 14)).off + 2 + 9, none⟩ = some (.bool bg3) ∧ w'.cell? ⟨(ad2.add (k * 14)).block, (ad2.add (k * 14)).off + 2 + 10, none⟩ = some (.slice bX3 bn3 bc3) ∧ w'.cell? ⟨(ad2.add (k * 14)).block, (ad2.add (k * 14)).off + 2 + 11, none⟩ = some (.int .i64 be3)) (by kernel_rfl) (SS _ hBd) (fun hHeld => ?_)
        refine tkY 0 (h := ?_)
        (try simp only [Act.put, List.setIfInBounds_toArray, List.set_cons_zero, List.set_cons_succ])
        refine tkY 1 (h := ?_)
        (try simp only [Act.put, List.setIfInBounds_toArray, List.set_cons_zero, List.set_cons_succ])
        refine tkY 2 (h := ?_)
        (try simp only [Act.put, List.setIfInBounds_toArray, List.set_cons_zero, List.set_cons_succ])
        refine tkY 3 (h := ?_)
        (try simp only [Act.put, List.setIfInBounds_toArray, List.set_cons_zero, List.set_cons_succ])
        refine tkY 4 (h := ?_)
        (try simp only [Act.put, List.setIfInBounds_toArray, List.set_cons_zero, List.set_cons_succ])
        refine tkY 5 (h := ?_)
        (try simp only [Act.put, List.setIfInBounds_toArray, List.set_cons_zero, List.set_cons_succ])
        refine tkY 6 (h := ?_)
        (try simp only [Act.put, List.setIfInBounds_toArray, List.set_cons_zero, List.set_cons_succ])
        refine tkY 7 (h := ?_)
        (try simp only [Act.put, List.setIfInBounds_toArray, List.set_cons_zero, List.set_cons_succ])
        refine tkY 8 (h := ?_)
        (try simp only [Act.put, List.setIfInBounds_toArray, List.set_cons_zero, List.set_cons_succ])
        refine tkY 9 (h := ?_)
        (try simp only [Act.put, List.setIfInBounds_toArray, List.set_cons_zero, List.set_cons_succ])
        refine tkY 10 (h := ?_)
        (try simp only [Act.put, List.setIfInBounds_toArray, List.set_cons_zero, List.set_cons_succ])
        refine tkY 11 (h := ?_)
        (try simp only [Act.put, List.setIfInBounds_toArray, List.set_cons_zero, List.set_cons_succ])
        refine tkY 12 (h := ?_)
        (try simp only [Act.put, List.setIfInBounds_toArray, List.set_cons_zero, List.set_cons_succ])
        refine tkY 13 (h := ?_)
        (try simp only [Act.put, List.setIfInBounds_toArray, List.set_cons_zero, List.set_cons_succ])
        refine tkY 14 (h := ?_)
        (try simp only [Act.put, List.setIfInBounds_toArray, List.set_cons_zero, List.set_cons_succ])
        refine tkY 15 (h := ?_)
        (try simp only [Act.put, List.setIfInBounds_toArray, List.set_cons_zero, List.set_cons_succ])
        refine tkY 16 (h := ?_)
        (try simp only [Act.put, List.setIfInBounds_toArray, List.set_cons_zero, List.set_cons_succ])
        refine tkY 17 (h := ?_)
        (try simp only [Act.put, List.setIfInBounds_toArray, List.set_cons_zero, List.set_cons_succ])
        refine tkY 18 (h := ?_)
        (try simp only [Act.put, List.setIfInBounds_toArray, List.set_cons_zero, List.set_cons_succ])
        refine tkY 19 (h := ?_)
        (try simp only [Act.put, List.setIfInBounds_toArray, List.set_cons_zero, List.set_cons_succ])
        refine tkY 20 (h := ?_)
        (try simp only [Act.put, List.setIfInBounds_toArray, List.set_cons_zero, List.set_cons_succ])
        refine tkY 21 (h := ?_)
        (try simp only [Act.put, List.setIfInBounds_toArray, List.set_cons_zero, List.set_cons_succ])
        refine tkY 22 (h := ?_)
        (try simp only [Act.put, List.setIfInBounds_toArray, List.set_cons_zero, List.set_cons_succ])
        refine tkY 23 (h := ?_)
        (try simp only [Act.put, List.setIfInBounds_toArray, List.set_cons_zero, List.set_cons_succ])
        refine tkY 24 (h := ?_)
        (try simp only [Act.put, List.setIfInBounds_toArray, List.set_cons_zero, List.set_cons_succ])
        refine tkN 25 (h := ?_)
        (try simp only [Act.put, List.setIfInBounds_toArray, List.set_cons_zero, List.set_cons_succ])
        refine tkN 26 (h := ?_)
        (try simp only [Act.put, List.setIfInBounds_toArray, List.set_cons_zero, List.set_cons_succ])
        refine tkN 27 (h := ?_)
        (try simp only [Act.put, List.setIfInBounds_toArray, List.set_cons_zero, List.set_cons_succ])
        refine tkN 28 (h := ?_)
        (try simp only [Act.put, List.setIfInBounds_toArray, List.set_cons_zero, List.set_cons_succ])
        refine tkN 29 (h := ?_)
        (try simp only [Act.put, List.setIfInBounds_toArray, List.set_cons_zero, List.set_cons_succ])
        refine tkN 30 (h := ?_)
        (try simp only [Act.put, List.setIfInBounds_toArray, List.set_cons_zero, List.set_cons_succ])
        refine tkN 31 (h := ?_)
        (try simp only [Act.put, List.setIfInBounds_toArray, List.set_cons_zero, List.set_cons_succ])
        refine tkN 32 (h := ?_)
        (try simp only [Act.put, List.setIfInBounds_toArray, List.set_cons_zero, List.set_cons_succ])
        refine tkN 33 (h := ?_)
        (try simp only [Act.put, List.setIfInBounds_toArray, List.set_cons_zero, List.set_cons_succ])
        refine tkN 34 (h := ?_)
        (try simp only [Act.put, List.setIfInBounds_toArray, List.set_cons_zero, List.set_cons_succ])
        refine tkN 35 (h := ?_)
        (try simp only [Act.put, List.setIfInBounds_toArray, List.set_cons_zero, List.set_cons_succ])
        refine tkN 36 (h := ?_)
        (try simp only [Act.put, List.setIfInBounds_toArray, List.set_cons_zero, List.set_cons_succ])
        refine tkY 37 (h := ?_)
        (try simp only [Act.put, List.setIfInBounds_toArray, List.set_cons_zero, List.set_cons_succ])
        refine wpAnyH_done (by kernel_rfl) ?_ _
        refine NoPanic.normal ?_
        go_wp2
        go_ret
        exact ⟨rfl, hBd⟩
      have t2 : (ep != ep2) = false := by rw [he]; simp
      have t3 : (why != why2) = false := by rw [hw]; simp
      have hc := fun w' (h : Below w.heap.size w w') => hal w' h (hk4.out he hw)
      clear he hw hk3 hk4 hal hB
      cases Q
      · obtain rfl := hQ3.out rfl
        clear gyes hQ2 hQ3
        go_wp2_with fail
        refine wp_region_noPanic ?_
        refine wp_region_held_drew (S := fun w' => w'.cell? (ad.add (k * 14)) = some (.int .i64 ep) ∧ w'.cell? ⟨(ad.add (k * 14)).block, (ad.add (k * 14)).off + 1, none⟩ = some (.int .u8 why) ∧ w'.cell? ⟨(ad.add (k * 14)).block, (ad.add (k * 14)).off + 2, none⟩ = some (.bool ag0) ∧ w'.cell? ⟨(ad.add (k * 14)).block, (ad.add (k * 14)).off + 2 + 1, none⟩ = some (.slice aX0 an0 ac0) ∧ w'.cell? ⟨(ad.add (k * 14)).block, (ad.add (k * 14)).off + 2 + 2, none⟩ = some (.int .i64 ae0) ∧ w'.cell? ⟨(ad.add (k * 14)).block, (ad.add (k * 14)).off + 2 + 3, none⟩ = some (.bool ag1) ∧ w'.cell? ⟨(ad.add (k * 14)).block, (ad.add (k * 14)).off + 2 + 4, none⟩ = some (.slice aX1 an1 ac1) ∧ w'.cell? ⟨(ad.add (k * 14)).block, (ad.add (k * 14)).off + 2 + 5, none⟩ = some (.int .i64 ae1) ∧ w'.cell? ⟨(ad.add (k * 14)).block, (ad.add (k * 14)).off + 2 + 6, none⟩ = some (.bool ag2) ∧ w'.cell? ⟨(ad.add (k * 14)).block, (ad.add (k * 14)).off + 2 + 7, none⟩ = some (.slice aX2 an2 ac2) ∧ w'.cell? ⟨(ad.add (k * 14)).block, (ad.add (k * 14)).off + 2 + 8, none⟩ = some (.int .i64 ae2) ∧ w'.cell? ⟨(ad.add (k * 14)).block, (ad.add (k * 14)).off + 2 + 9, none⟩ = some (.bool ag3) ∧ w'.cell? ⟨(ad.add (k * 14)).block, (ad.add (k * 14)).off + 2 + 10, none⟩ = some (.slice aX3 an3 ac3) ∧ w'.cell? ⟨(ad.add (k * 14)).block, (ad.add (k * 14)).off + 2 + 11, none⟩ = some (.int .i64 ae3) ∧ w'.cell? (ad2.add (k * 14)) = some (.int .i64 ep2) ∧ w'.cell? ⟨(ad2.add (k * 14)).block, (ad2.add (k * 14)).off + 1, none⟩ = some (.int .u8 why2) ∧ w'.cell? ⟨(ad2.add (k * 14)).block, (ad2.add (k * 14)).off + 2, none⟩ = some (.bool bg0) ∧ w'.cell? ⟨(ad2.add (k * 14)).block, (ad2.add (k * 14)).off + 2 + 1, none⟩ = some (.slice bX0 bn0 bc0) ∧ w'.cell? ⟨(ad2.add (k * 14)).block, (ad2.add (k * 14)).off + 2 + 2, none⟩ = some (.int .i64 be0) ∧ w'.cell? ⟨(ad2.add (k * 14)).block, (ad2.add (k * 14)).off + 2 + 3, none⟩ = some (.bool bg1) ∧ w'.cell? ⟨(ad2.add (k * 14)).block, (ad2.add (k * 14)).off + 2 + 4, none⟩ = some (.slice bX1 bn1 bc1) ∧ w'.cell? ⟨(ad2.add (k * 14)).block, (ad2.add (k * 14)).off + 2 + 5, none⟩ = some (.int .i64 be1) ∧ w'.cell? ⟨(ad2.add (k * 14)).block, (ad2.add (k * 14)).off + 2 + 6, none⟩ = some (.bool bg2) ∧ w'.cell? ⟨(ad2.add (k * 14)).block, (ad2.add (k * 14)).off + 2 + 7, none⟩ = some (.slice bX2 bn2 bc2) ∧ w'.cell? ⟨(ad2.add (k * 14)).block, (ad2.add (k * 14)).off + 2 + 8, none⟩ = some (.int .i64 be2) ∧ w'.cell? ⟨(ad2.add (k * 14)).block, (ad2.add (k * 14)).off + 2 + 9, none⟩ = some (.bool bg3) ∧ w'.cell? ⟨(ad2.add (k * 14)).block, (ad2.add (k * 14)).off + 2 + 10, none⟩ = some (.slice bX3 bn3 bc3) ∧ w'.cell? ⟨(ad2.add (k * 14)).block, (ad2.add (k * 14)).off + 2 + 11, none⟩ = some (.int .i64 be3)) (by kernel_rfl) (SS _ hBd) (fun hHeld => ?_)
        refine tkY 0 (h := ?_)
        (try simp only [Act.put, List.setIfInBounds_toArray, List.set_cons_zero, List.set_cons_succ])
        refine tkY 1 (h := ?_)
        (try simp only [Act.put, List.setIfInBounds_toArray, List.set_cons_zero, List.set_cons_succ])
        refine tkY 2 (h := ?_)
        (try simp only [Act.put, List.setIfInBounds_toArray, List.set_cons_zero, List.set_cons_succ])
        refine tkY 3 (h := ?_)
        (try simp only [Act.put, List.setIfInBounds_toArray, List.set_cons_zero, List.set_cons_succ])
        refine tkY 4 (h := ?_)
        (try simp only [Act.put, List.setIfInBounds_toArray, List.set_cons_zero, List.set_cons_succ])
        refine tkY 5 (h := ?_)
        (try simp only [Act.put, List.setIfInBounds_toArray, List.set_cons_zero, List.set_cons_succ])
        refine tkY 6 (h := ?_)
        (try simp only [Act.put, List.setIfInBounds_toArray, List.set_cons_zero, List.set_cons_succ])
        refine tkY 7 (h := ?_)
        (try simp only [Act.put, List.setIfInBounds_toArray, List.set_cons_zero, List.set_cons_succ])
        refine tkY 8 (h := ?_)
        (try simp only [Act.put, List.setIfInBounds_toArray, List.set_cons_zero, List.set_cons_succ])
        refine tkY 9 (h := ?_)
        (try simp only [Act.put, List.setIfInBounds_toArray, List.set_cons_zero, List.set_cons_succ])
        refine tkY 10 (h := ?_)
        (try simp only [Act.put, List.setIfInBounds_toArray, List.set_cons_zero, List.set_cons_succ])
        refine tkY 11 (h := ?_)
        (try simp only [Act.put, List.setIfInBounds_toArray, List.set_cons_zero, List.set_cons_succ])
        refine tkY 12 (h := ?_)
        (try simp only [Act.put, List.setIfInBounds_toArray, List.set_cons_zero, List.set_cons_succ])
        refine tkY 13 (h := ?_)
        (try simp only [Act.put, List.setIfInBounds_toArray, List.set_cons_zero, List.set_cons_succ])
        refine tkY 14 (h := ?_)
        (try simp only [Act.put, List.setIfInBounds_toArray, List.set_cons_zero, List.set_cons_succ])
        refine tkY 15 (h := ?_)
        (try simp only [Act.put, List.setIfInBounds_toArray, List.set_cons_zero, List.set_cons_succ])
        refine tkY 16 (h := ?_)
        (try simp only [Act.put, List.setIfInBounds_toArray, List.set_cons_zero, List.set_cons_succ])
        refine tkY 17 (h := ?_)
        (try simp only [Act.put, List.setIfInBounds_toArray, List.set_cons_zero, List.set_cons_succ])
        refine tkY 18 (h := ?_)
        (try simp only [Act.put, List.setIfInBounds_toArray, List.set_cons_zero, List.set_cons_succ])
        refine tkY 19 (h := ?_)
        (try simp only [Act.put, List.setIfInBounds_toArray, List.set_cons_zero, List.set_cons_succ])
        refine tkY 20 (h := ?_)
        (try simp only [Act.put, List.setIfInBounds_toArray, List.set_cons_zero, List.set_cons_succ])
        refine tkY 21 (h := ?_)
        (try simp only [Act.put, List.setIfInBounds_toArray, List.set_cons_zero, List.set_cons_succ])
        refine tkY 22 (h := ?_)
        (try simp only [Act.put, List.setIfInBounds_toArray, List.set_cons_zero, List.set_cons_succ])
        refine tkY 23 (h := ?_)
        (try simp only [Act.put, List.setIfInBounds_toArray, List.set_cons_zero, List.set_cons_succ])
        refine tkY 24 (h := ?_)
        (try simp only [Act.put, List.setIfInBounds_toArray, List.set_cons_zero, List.set_cons_succ])
        refine tkY 25 (h := ?_)
        (try simp only [Act.put, List.setIfInBounds_toArray, List.set_cons_zero, List.set_cons_succ])
        refine tkY 26 (h := ?_)
        (try simp only [Act.put, List.setIfInBounds_toArray, List.set_cons_zero, List.set_cons_succ])
        refine tkY 27 (h := ?_)
        (try simp only [Act.put, List.setIfInBounds_toArray, List.set_cons_zero, List.set_cons_succ])
        refine tkY 28 (h := ?_)
        (try simp only [Act.put, List.setIfInBounds_toArray, List.set_cons_zero, List.set_cons_succ])
        refine tkY 29 (h := ?_)
        (try simp only [Act.put, List.setIfInBounds_toArray, List.set_cons_zero, List.set_cons_succ])
        refine tkY 30 (h := ?_)
        (try simp only [Act.put, List.setIfInBounds_toArray, List.set_cons_zero, List.set_cons_succ])
        refine tkY 31 (h := ?_)
        (try simp only [Act.put, List.setIfInBounds_toArray, List.set_cons_zero, List.set_cons_succ])
        refine tkY 32 (h := ?_)
        (try simp only [Act.put, List.setIfInBounds_toArray, List.set_cons_zero, List.set_cons_succ])
        refine tkY 33 (h := ?_)
        (try simp only [Act.put, List.setIfInBounds_toArray, List.set_cons_zero, List.set_cons_succ])
        refine tkY 34 (h := ?_)
        (try simp only [Act.put, List.setIfInBounds_toArray, List.set_cons_zero, List.set_cons_succ])
        refine tkR 35 (h := fun K hK => ?_)
        go_simp
        with_reducible refine (hc _ hBd).mono ?_
        rintro en w6 ⟨rfl, hb6⟩
        have hB6 : Below w.heap.size w w6 := hBd.trans (hb6.mono hBd.size)
        refine hK.out _ _ (SS _ hB6) (fun hHeld => ?_)
        clear hK K
        (try simp only [Act.put, List.setIfInBounds_toArray, List.set_cons_zero, List.set_cons_succ])
        refine tkY 36 (h := ?_)
        (try simp only [Act.put, List.setIfInBounds_toArray, List.set_cons_zero, List.set_cons_succ])
        refine tkY 37 (h := ?_)
        (try simp only [Act.put, List.setIfInBounds_toArray, List.set_cons_zero, List.set_cons_succ])
        refine wpAnyH_done (by kernel_rfl) ?_ _
        refine NoPanic.normal ?_
        go_wp2
        go_ret
        exact ⟨rfl, hB6⟩
      · have h0' := Lib.hid (hQ2.out rfl)
        clear hQ2 hQ3 gyes
        go_wp2_with fail
        refine wp_region_noPanic ?_
        refine wp_region_held_drew (S := fun w' => w'.cell? (ad.add (k * 14)) = some (.int .i64 ep) ∧ w'.cell? ⟨(ad.add (k * 14)).block, (ad.add (k * 14)).off + 1, none⟩ = some (.int .u8 why) ∧ w'.cell? ⟨(ad.add (k * 14)).block, (ad.add (k * 14)).off + 2, none⟩ = some (.bool ag0) ∧ w'.cell? ⟨(ad.add (k * 14)).block, (ad.add (k * 14)).off + 2 + 1, none⟩ = some (.slice aX0 an0 ac0) ∧ w'.cell? ⟨(ad.add (k * 14)).block, (ad.add (k * 14)).off + 2 + 2, none⟩ = some (.int .i64 ae0) ∧ w'.cell? ⟨(ad.add (k * 14)).block, (ad.add (k * 14)).off + 2 + 3, none⟩ = some (.bool ag1) ∧ w'.cell? ⟨(ad.add (k * 14)).block, (ad.add (k * 14)).off + 2 + 4, none⟩ = some (.slice aX1 an1 ac1) ∧ w'.cell? ⟨(ad.add (k * 14)).block, (ad.add (k * 14)).off + 2 + 5, none⟩ = some (.int .i64 ae1) ∧ w'.cell? ⟨(ad.add (k * 14)).block, (ad.add (k * 14)).off + 2 + 6, none⟩ = some (.bool ag2) ∧ w'.cell? ⟨(ad.add (k * 14)).block, (ad.add (k * 14)).off + 2 + 7, none⟩ = some (.slice aX2 an2 ac2) ∧ w'.cell? ⟨(ad.add (k * 14)).block, (ad.add (k * 14)).off + 2 + 8, none⟩ = some (.int .i64 ae2) ∧ w'.cell? ⟨(ad.add (k * 14)).block, (ad.add (k * 14)).off + 2 + 9, none⟩ = some (.bool ag3) ∧ w'.cell? ⟨(ad.add (k * 14)).block, (ad.add (k * 14)).off + 2 + 10, none⟩ = some (.slice aX3 an3 ac3) ∧ w'.cell? ⟨(ad.add (k * 14)).block, (ad.add (k * 14)).off + 2 + 11, none⟩ = some (.int .i64 ae3) ∧ w'.cell? (ad2.add (k * 14)) = some (.int .i64 ep2) ∧ w'.cell? ⟨(ad2.add (k * 14)).block, (ad2.add (k * 14)).off + 1, none⟩ = some (.int .u8 why2) ∧ w'.cell? ⟨(ad2.add (k * 14)).block, (ad2.add (k * 14)).off + 2, none⟩ = some (.bool bg0) ∧ w'.cell? ⟨(ad2.add (k * 14)).block, (ad2.add (k * 14)).off + 2 + 1, none⟩ = some (.slice bX0 bn0 bc0) ∧ w'.cell? ⟨(ad2.add (k * 14)).block, (ad2.add (k * 14)).off + 2 + 2, none⟩ = some (.int .i64 be0) ∧ w'.cell? ⟨(ad2.add (k * 14)).block, (ad2.add (k * 14)).off + 2 + 3, none⟩ = some (.bool bg1) ∧ w'.cell? ⟨(ad2.add (k * 14)).block, (ad2.add (k * 14)).off + 2 + 4, none⟩ = some (.slice bX1 bn1 bc1) ∧ w'.cell? ⟨(ad2.add (k * 14)).block, (ad2.add (k * 14)).off + 2 + 5, none⟩ = some (.int .i64 be1) ∧ w'.cell? ⟨(ad2.add (k * 14)).block, (ad2.add (k * 14)).off + 2 + 6, none⟩ = some (.bool bg2) ∧ w'.cell? ⟨(ad2.add (k * 14)).block, (ad2.add (k * 14)).off + 2 + 7, none⟩ = some (.slice bX2 bn2 bc2) ∧ w'.cell? ⟨(ad2.add (k * 14)).block, (ad2.add (k * 14)).off + 2 + 8, none⟩ = some (.int .i64 be2) ∧ w'.cell? ⟨(ad2.add (k * 14)).block, (ad2.add (k * 14)).off + 2 + 9, none⟩ = some (.bool bg3) ∧ w'.cell? ⟨(ad2.add (k * 14)).block, (ad2.add (k * 14)).off + 2 + 10, none⟩ = some (.slice bX3 bn3 bc3) ∧ w'.cell? ⟨(ad2.add (k * 14)).block, (ad2.add (k * 14)).off + 2 + 11, none⟩ = some (.int .i64 be3)) (by kernel_rfl) (SS _ hBd) (fun hHeld => ?_)
        refine tkY 0 (h := ?_)
        (try simp only [Act.put, List.setIfInBounds_toArray, List.set_cons_zero, List.set_cons_succ])
        refine tkY 1 (h := ?_)
        (try simp only [Act.put, List.setIfInBounds_toArray, List.set_cons_zero, List.set_cons_succ])
        refine tkY 2 (h := ?_)
        (try simp only [Act.put, List.setIfInBounds_toArray, List.set_cons_zero, List.set_cons_succ])
        refine tkY 3 (h := ?_)
        (try simp only [Act.put, List.setIfInBounds_toArray, List.set_cons_zero, List.set_cons_succ])
        refine tkY 4 (h := ?_)
        (try simp only [Act.put, List.setIfInBounds_toArray, List.set_cons_zero, List.set_cons_succ])
        refine tkY 5 (h := ?_)
        (try simp only [Act.put, List.setIfInBounds_toArray, List.set_cons_zero, List.set_cons_succ])
        refine tkY 6 (h := ?_)
        (try simp only [Act.put, List.setIfInBounds_toArray, List.set_cons_zero, List.set_cons_succ])
        refine tkY 7 (h := ?_)
        (try simp only [Act.put, List.setIfInBounds_toArray, List.set_cons_zero, List.set_cons_succ])
        refine tkY 8 (h := ?_)
        (try simp only [Act.put, List.setIfInBounds_toArray, List.set_cons_zero, List.set_cons_succ])
        refine tkY 9 (h := ?_)
        (try simp only [Act.put, List.setIfInBounds_toArray, List.set_cons_zero, List.set_cons_succ])
        refine tkY 10 (h := ?_)
        (try simp only [Act.put, List.setIfInBounds_toArray, List.set_cons_zero, List.set_cons_succ])
        refine tkY 11 (h := ?_)
        (try simp only [Act.put, List.setIfInBounds_toArray, List.set_cons_zero, List.set_cons_succ])
        refine tkY 12 (h := ?_)
        (try simp only [Act.put, List.setIfInBounds_toArray, List.set_cons_zero, List.set_cons_succ])
        refine tkY 13 (h := ?_)
        (try simp only [Act.put, List.setIfInBounds_toArray, List.set_cons_zero, List.set_cons_succ])
        refine tkY 14 (h := ?_)
        (try simp only [Act.put, List.setIfInBounds_toArray, List.set_cons_zero, List.set_cons_succ])
        refine tkY 15 (h := ?_)
        (try simp only [Act.put, List.setIfInBounds_toArray, List.set_cons_zero, List.set_cons_succ])
        refine tkY 16 (h := ?_)
        (try simp only [Act.put, List.setIfInBounds_toArray, List.set_cons_zero, List.set_cons_succ])
        refine tkY 17 (h := ?_)
        (try simp only [Act.put, List.setIfInBounds_toArray, List.set_cons_zero, List.set_cons_succ])
        refine tkY 18 (h := ?_)
        (try simp only [Act.put, List.setIfInBounds_toArray, List.set_cons_zero, List.set_cons_succ])
        refine tkY 19 (h := ?_)
        (try simp only [Act.put, List.setIfInBounds_toArray, List.set_cons_zero, List.set_cons_succ])
        refine tkY 20 (h := ?_)
        (try simp only [Act.put, List.setIfInBounds_toArray, List.set_cons_zero, List.set_cons_succ])
        refine tkY 21 (h := ?_)
        (try simp only [Act.put, List.setIfInBounds_toArray, List.set_cons_zero, List.set_cons_succ])
        refine tkY 22 (h := ?_)
        (try simp only [Act.put, List.setIfInBounds_toArray, List.set_cons_zero, List.set_cons_succ])
        refine tkY 23 (h := ?_)
        (try simp only [Act.put, List.setIfInBounds_toArray, List.set_cons_zero, List.set_cons_succ])
        refine tkY 24 (h := ?_)
        (try simp only [Act.put, List.setIfInBounds_toArray, List.set_cons_zero, List.set_cons_succ])
        refine tkY 25 (h := ?_)
        (try simp only [Act.put, List.setIfInBounds_toArray, List.set_cons_zero, List.set_cons_succ])
        refine tkY 26 (h := ?_)
        (try simp only [Act.put, List.setIfInBounds_toArray, List.set_cons_zero, List.set_cons_succ])
        refine tkY 27 (h := ?_)
        (try simp only [Act.put, List.setIfInBounds_toArray, List.set_cons_zero, List.set_cons_succ])
        refine tkY 28 (h := ?_)
        (try simp only [Act.put, List.setIfInBounds_toArray, List.set_cons_zero, List.set_cons_succ])
        refine tkY 29 (h := ?_)
        (try simp only [Act.put, List.setIfInBounds_toArray, List.set_cons_zero, List.set_cons_succ])
        refine tkY 30 (h := ?_)
        (try simp only [Act.put, List.setIfInBounds_toArray, List.set_cons_zero, List.set_cons_succ])
        refine tkY 31 (h := ?_)
        (try simp only [Act.put, List.setIfInBounds_toArray, List.set_cons_zero, List.set_cons_succ])
        refine tkY 32 (h := ?_)
        (try simp only [Act.put, List.setIfInBounds_toArray, List.set_cons_zero, List.set_cons_succ])
        refine tkY 33 (h := ?_)
        (try simp only [Act.put, List.setIfInBounds_toArray, List.set_cons_zero, List.set_cons_succ])
        refine tkY 34 (h := ?_)
        (try simp only [Act.put, List.setIfInBounds_toArray, List.set_cons_zero, List.set_cons_succ])
        refine tkR 35 (h := fun K hK => ?_)
        go_simp
        with_reducible refine (hc _ hBd).mono ?_
        rintro en w6 ⟨rfl, hb6⟩
        have hB6 : Below w.heap.size w w6 := hBd.trans (hb6.mono hBd.size)
        refine hK.out _ _ (SS _ hB6) (fun hHeld => ?_)
        clear hK K
        (try simp only [Act.put, List.setIfInBounds_toArray, List.set_cons_zero, List.set_cons_succ])
        refine tkY 36 (h := ?_)
        (try simp only [Act.put, List.setIfInBounds_toArray, List.set_cons_zero, List.set_cons_succ])
        refine tkY 37 (h := ?_)
        (try simp only [Act.put, List.setIfInBounds_toArray, List.set_cons_zero, List.set_cons_succ])
        refine wpAnyH_done (by kernel_rfl) ?_ _
        refine NoPanic.normal ?_
        go_wp2
        go_roundw
        case rel => exact ⟨k + 1, by omega, by go_num, h0', hB6⟩
        case measure => simp [intOf] <;> omega
    · obtain rfl : k = n := by omega
      obtain rfl := gyes.out h0.out
      clear h0 h1 h2 hs1 hs2 gno gyes hB0
      go_wp2
      go_ret
      exact ⟨rfl, hB⟩
end Go.Proofs.YtmppalgecboeeaaDoor
