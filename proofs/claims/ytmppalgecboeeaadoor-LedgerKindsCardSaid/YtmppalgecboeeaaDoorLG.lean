/- Ledger: whether two rows of entries are the same: the reference's answer -/
import Derived.Test.YtmppalgecboeeaaDoorLF
namespace Go.Proofs.YtmppalgecboeeaaDoor
open Go.ChangeShapes Go.WideShapes Go.ChangeAt Go.RowKit
set_option linter.unusedSimpArgs false
set_option linter.unusedVariables false
set_option maxHeartbeats 4000000 in
theorem resame_any (A A2 : Option Addr) (n n2 c c2 : Nat) (l l2 : List En) (hm : n ≤ 10000) (hm2 : n2 ≤ 10000) (hs1 : ∀ x ∈ l, smM x.give) (hs2 : ∀ x ∈ l2, smM x.give) (R : Bool) (hR : decide (l = l2) = R) (w : World) (h1 : Ens w w.heap.size A n l) (h2 : Ens w w.heap.size A2 n2 l2) :
    Calls Tryd.prog 19 #[.slice A n c, .slice A2 n2 c2] w fun en w' => en = .returned (.bool R) ∧ Below w.heap.size w w' := by
  have ln1 := ens_len h1
  have ln2 := ens_len h2
  by_cases hlen : n = n2
  rotate_left
  · obtain rfl : false = R := by rw [← hR]; exact (decide_eq_false (fun e => hlen (by rw [← ln1, ← ln2, e]))).symm
    have t1 : ((n : Int) != n2) = true := by simp; omega
    have t2 : (n != n2) = true := by simp; omega
    clear hR h1 h2 hs1 hs2 ln1 ln2 hlen
    go_enter Tryd.func19, Tryd.ntmps19
    go_wp2
    go_ret
    exact ⟨rfl, Below.refl _ _⟩
  subst hlen
  have gno : Hid (∀ k : Nat, l[k]? ≠ l2[k]? → R = false) := Lib.hid (fun k h => by rw [← hR]; exact decide_eq_false (fun e => h (by rw [e])))
  have gyes : Hid ((∀ k : Nat, k < n → l[k]? = l2[k]?) → R = true) := Lib.hid (fun h => by
    rw [← hR]
    refine decide_eq_true (List.ext_getElem? fun i => ?_)
    rcases Nat.lt_or_ge i n with h3 | h3
    · exact h i h3
    · rw [List.getElem?_eq_none (by omega), List.getElem?_eq_none (by omega)])
  have t1 : ((n : Int) != n) = false := by simp
  have hB0 := Below.refl w.heap.size w
  clear hR ln1 ln2
  go_enter Tryd.func19, Tryd.ntmps19
  go_wp2
  go_loopw [5] (fun t wr => ∃ k : Nat, k ≤ n ∧ t = .int .i64 (k : Int) ∧ Hid (∀ j : Nat, j < k → l[j]? = l2[j]?) ∧ Below w.heap.size w wr) (fun t _ => n - (intOf t).toNat)
  case atStart => exact ⟨0, Nat.zero_le _, rfl, Lib.hid (fun j h => by omega), hB0⟩
  case round =>
    obtain ⟨k, hk, rfl, h0, hB⟩ := hrel
    by_cases hlt : k < n
    · obtain ⟨ad, ep, why, ag0, aX0, an0, ac0, ae0, ag1, aX1, an1, ac1, ae1, ag2, aX2, an2, ac2, ae2, ag3, aX3, an3, ac3, ae3, m, rfl, hb1, hl1, hx1, hrel1⟩ := ens_rel h1 hlt
      obtain ⟨ad2, ep2, why2, bg0, bX0, bn0, bc0, be0, bg1, bX1, bn1, bc1, be1, bg2, bX2, bn2, bc2, be2, bg3, bX3, bn3, bc3, be3, m2, rfl, hb2, hl2, hx2, hrel2⟩ := ens_rel h2 hlt
      have q1 : smM m := hs1 _ (List.mem_of_getElem? hl1)
      have q2 : smM m2 := hs2 _ (List.mem_of_getElem? hl2)
      obtain ⟨Q, hQ⟩ : ∃ Q, decide ((⟨ep, why, m⟩ : En) = ⟨ep2, why2, m2⟩) = Q := ⟨_, rfl⟩
      have i1 : (0 : Int) ≤ k := by omega
      have i2 : (k : Int) < n := by omega
      have hQ2 : Hid (Q = true → ∀ j : Nat, j < k + 1 → l[j]? = l2[j]?) := Lib.hid (fun hq j hj => by
        rcases Nat.lt_or_ge j k with h | h
        · exact h0.out j h
        · rw [show j = k by omega, hl1, hl2]
          rw [hq] at hQ
          rw [of_decide_eq_true hQ])
      have hQ3 : Hid (Q = false → R = false) := Lib.hid (fun hq => gno.out k (by
        rw [hl1, hl2]
        rw [hq] at hQ
        intro e
        injection e with e
        exact of_decide_eq_false hQ e))
      have SS : ∀ w', Below w.heap.size w w' → w'.cell? (ad.add (k * 14)) = some (.int .i64 ep) ∧ w'.cell? ⟨(ad.add (k * 14)).block, (ad.add (k * 14)).off + 1, none⟩ = some (.int .u8 why) ∧ w'.cell? ⟨(ad.add (k * 14)).block, (ad.add (k * 14)).off + 2, none⟩ = some (.bool ag0) ∧ w'.cell? ⟨(ad.add (k * 14)).block, (ad.add (k * 14)).off + 2 + 1, none⟩ = some (.slice aX0 an0 ac0) ∧ w'.cell? ⟨(ad.add (k * 14)).block, (ad.add (k * 14)).off + 2 + 2, none⟩ = some (.int .i64 ae0) ∧ w'.cell? ⟨(ad.add (k * 14)).block, (ad.add (k * 14)).off + 2 + 3, none⟩ = some (.bool ag1) ∧ w'.cell? ⟨(ad.add (k * 14)).block, (ad.add (k * 14)).off + 2 + 4, none⟩ = some (.slice aX1 an1 ac1) ∧ w'.cell? ⟨(ad.add (k * 14)).block, (ad.add (k * 14)).off + 2 + 5, none⟩ = some (.int .i64 ae1) ∧ w'.cell? ⟨(ad.add (k * 14)).block, (ad.add (k * 14)).off + 2 + 6, none⟩ = some (.bool ag2) ∧ w'.cell? ⟨(ad.add (k * 14)).block, (ad.add (k * 14)).off + 2 + 7, none⟩ = some (.slice aX2 an2 ac2) ∧ w'.cell? ⟨(ad.add (k * 14)).block, (ad.add (k * 14)).off + 2 + 8, none⟩ = some (.int .i64 ae2) ∧ w'.cell? ⟨(ad.add (k * 14)).block, (ad.add (k * 14)).off + 2 + 9, none⟩ = some (.bool ag3) ∧ w'.cell? ⟨(ad.add (k * 14)).block, (ad.add (k * 14)).off + 2 + 10, none⟩ = some (.slice aX3 an3 ac3) ∧ w'.cell? ⟨(ad.add (k * 14)).block, (ad.add (k * 14)).off + 2 + 11, none⟩ = some (.int .i64 ae3) ∧ w'.cell? (ad2.add (k * 14)) = some (.int .i64 ep2) ∧ w'.cell? ⟨(ad2.add (k * 14)).block, (ad2.add (k * 14)).off + 1, none⟩ = some (.int .u8 why2) ∧ w'.cell? ⟨(ad2.add (k * 14)).block, (ad2.add (k * 14)).off + 2, none⟩ = some (.bool bg0) ∧ w'.cell? ⟨(ad2.add (k * 14)).block, (ad2.add (k * 14)).off + 2 + 1, none⟩ = some (.slice bX0 bn0 bc0) ∧ w'.cell? ⟨(ad2.add (k * 14)).block, (ad2.add (k * 14)).off + 2 + 2, none⟩ = some (.int .i64 be0) ∧ w'.cell? ⟨(ad2.add (k * 14)).block, (ad2.add (k * 14)).off + 2 + 3, none⟩ = some (.bool bg1) ∧ w'.cell? ⟨(ad2.add (k * 14)).block, (ad2.add (k * 14)).off + 2 + 4, none⟩ = some (.slice bX1 bn1 bc1) ∧ w'.cell? ⟨(ad2.add (k * 14)).block, (ad2.add (k * 14)).off + 2 + 5, none⟩ = some (.int .i64 be1) ∧ w'.cell? ⟨(ad2.add (k * 14)).block, (ad2.add (k * 14)).off + 2 + 6, none⟩ = some (.bool bg2) ∧ w'.cell? ⟨(ad2.add (k * 14)).block, (ad2.add (k * 14)).off + 2 + 7, none⟩ = some (.slice bX2 bn2 bc2) ∧ w'.cell? ⟨(ad2.add (k * 14)).block, (ad2.add (k * 14)).off + 2 + 8, none⟩ = some (.int .i64 be2) ∧ w'.cell? ⟨(ad2.add (k * 14)).block, (ad2.add (k * 14)).off + 2 + 9, none⟩ = some (.bool bg3) ∧ w'.cell? ⟨(ad2.add (k * 14)).block, (ad2.add (k * 14)).off + 2 + 10, none⟩ = some (.slice bX3 bn3 bc3) ∧ w'.cell? ⟨(ad2.add (k * 14)).block, (ad2.add (k * 14)).off + 2 + 11, none⟩ = some (.int .i64 be3) := fun w' h => by
        obtain ⟨a0, a1, a2, a3, a4, a5, a6, a7, a8, a9, a10, a11, a12, a13⟩ := (hrel1 w' h).2
        obtain ⟨b0, b1, b2, b3, b4, b5, b6, b7, b8, b9, b10, b11, b12, b13⟩ := (hrel2 w' h).2
        exact ⟨a0, a1, a2, a3, a4, a5, a6, a7, a8, a9, a10, a11, a12, a13, b0, b1, b2, b3, b4, b5, b6, b7, b8, b9, b10, b11, b12, b13⟩
      have hk3 : Hid (Q = true → ep = ep2 ∧ why = why2 ∧ m = m2) := Lib.hid (fun hq => by
        rw [hq] at hQ
        have := of_decide_eq_true hQ
        injection this with e1 e2 e3
        exact ⟨e1, e2, e3⟩)
      have hk4 : Hid (ep = ep2 → why = why2 → decide (m = m2) = Q) := Lib.hid (fun h1 h2 => by rw [← hQ, h1, h2]; simp)
      have hal := fun w' (h : Below w.heap.size w w') (hm : decide (m = m2) = Q) => rmsame_any ag0 aX0 an0 ac0 ae0 ag1 aX1 an1 ac1 ae1 ag2 aX2 an2 ac2 ae2 ag3 aX3 an3 ac3 ae3 bg0 bX0 bn0 bc0 be0 bg1 bX1 bn1 bc1 be1 bg2 bX2 bn2 bc2 be2 bg3 bX3 bn3 bc3 be3 m m2 q1 q2 w' (hrel1 w' h).1 (hrel2 w' h).1 Q hm
      have hBd : Below w.heap.size w wr.drew := hB.drew
      clear hl1 hl2 hx1 hx2 hrel1 hrel2 hQ h0 h1 h2 hs1 hs2 gno hB0 q1 q2
      by_cases he : ep = ep2
      rotate_left
      · have t2 : (ep != ep2) = true := bne_iff_ne.2 he
        have hQf : Q = false := by cases Q; rfl; exact absurd (hk3.out rfl).1 he
        obtain rfl := hQ3.out hQf
        clear he hQf hQ2 hQ3 hk3 hk4 gyes hal
        go_wp2_with fail
        refine wp_region_noPanic ?_
        refine wp_region_held_drew (S := fun w' => w'.cell? (ad.add (k * 14)) = some (.int .i64 ep) ∧ w'.cell? ⟨(ad.add (k * 14)).block, (ad.add (k * 14)).off + 1, none⟩ = some (.int .u8 why) ∧ w'.cell? ⟨(ad.add (k * 14)).block, (ad.add (k * 14)).off + 2, none⟩ = some (.bool ag0) ∧ w'.cell? ⟨(ad.add (k * 14)).block, (ad.add (k * 14)).off + 2 + 1, none⟩ = some (.slice aX0 an0 ac0) ∧ w'.cell? ⟨(ad.add (k * 14)).block, (ad.add (k * 14)).off + 2 + 2, none⟩ = some (.int .i64 ae0) ∧ w'.cell? ⟨(ad.add (k * 14)).block, (ad.add (k * 14)).off + 2 + 3, none⟩ = some (.bool ag1) ∧ w'.cell? ⟨(ad.add (k * 14)).block, (ad.add (k * 14)).off + 2 + 4, none⟩ = some (.slice aX1 an1 ac1) ∧ w'.cell? ⟨(ad.add (k * 14)).block, (ad.add (k * 14)).off + 2 + 5, none⟩ = some (.int .i64 ae1) ∧ w'.cell? ⟨(ad.add (k * 14)).block, (ad.add (k * 14)).off + 2 + 6, none⟩ = some (.bool ag2) ∧ w'.cell? ⟨(ad.add (k * 14)).block, (ad.add (k * 14)).off + 2 + 7, none⟩ = some (.slice aX2 an2 ac2) ∧ w'.cell? ⟨(ad.add (k * 14)).block, (ad.add (k * 14)).off + 2 + 8, none⟩ = some (.int .i64 ae2) ∧ w'.cell? ⟨(ad.add (k * 14)).block, (ad.add (k * 14)).off + 2 + 9, none⟩ = some (.bool ag3) ∧ w'.cell? ⟨(ad.add (k * 14)).block, (ad.add (k * 14)).off + 2 + 10, none⟩ = some (.slice aX3 an3 ac3) ∧ w'.cell? ⟨(ad.add (k * 14)).block, (ad.add (k * 14)).off + 2 + 11, none⟩ = some (.int .i64 ae3) ∧ w'.cell? (ad2.add (k * 14)) = some (.int .i64 ep2) ∧ w'.cell? ⟨(ad2.add (k * 14)).block, (ad2.add (k * 14)).off + 1, none⟩ = some (.int .u8 why2) ∧ w'.cell? ⟨(ad2.add (k * 14)).block, (ad2.add (k * 14)).off + 2, none⟩ = some (.bool bg0) ∧ w'.cell? ⟨(ad2.add (k * 14)).block, (ad2.add (k * 14)).off + 2 + 1, none⟩ = some (.slice bX0 bn0 bc0) ∧ w'.cell? ⟨(ad2.add (k * 14)).block, (ad2.add (k * 14)).off + 2 + 2, none⟩ = some (.int .i64 be0) ∧ w'.cell? ⟨(ad2.add (k * 14)).block, (ad2.add (k * 14)).off + 2 + 3, none⟩ = some (.bool bg1) ∧ w'.cell? ⟨(ad2.add (k * 14)).block, (ad2.add (k * 14)).off + 2 + 4, none⟩ = some (.slice bX1 bn1 bc1) ∧ w'.cell? ⟨(ad2.add (k * 14)).block, (ad2.add (k * 14)).off + 2 + 5, none⟩ = some (.int .i64 be1) ∧ w'.cell? ⟨(ad2.add (k * 14)).block, (ad2.add (k * 14)).off + 2 + 6, none⟩ = some (.bool bg2) ∧ w'.cell? ⟨(ad2.add (k * 14)).block, (ad2.add (k * 14)).off + 2 + 7, none⟩ = some (.slice bX2 bn2 bc2) ∧ w'.cell? ⟨(ad2.add (k * 14)).block, (ad2.add (k * 14)).off + 2 + 8, none⟩ = some (.int .i64 be2) ∧ w'.cell? ⟨(ad2.add (k * 14)).block, (ad2.add (k * 14)).off + 2 + 9, none⟩ = some (.bool bg3) ∧ w'.cell? ⟨(ad2.add (k * 14)).block, (ad2.add (k * 14)).off + 2 + 10, none⟩ = some (.slice bX3 bn3 bc3) ∧ w'.cell? ⟨(ad2.add (k * 14)).block, (ad2.add (k * 14)).off + 2 + 11, none⟩ = some (.int .i64 be3)) (by kernel_rfl) (SS _ hBd) (fun hHeld => ?_)
        refine wpAnyH_take (i := 0) (oi := ?oa0) (v := ?va0) ?hoa0 (by kernel_rfl) (by kernel_rfl) (by kernel_rfl) (fun _ _ _ h => h) (Or.inl ⟨?wna0, ?yna0⟩) (by assumption) ?resta0
        case hoa0 => (simp only [List.getElem?_toArray, List.getElem?_cons_zero, List.getElem?_cons_succ]; rfl)
        case wna0 => rfl
        case yna0 => (intro w hSw; (try dsimp only at hSw); go_simp; (try with_reducible rfl))
        (try simp only [Act.put, List.setIfInBounds_toArray, List.set_cons_zero, List.set_cons_succ])
        refine wpAnyH_take (i := 1) (oi := ?oa1) (v := ?va1) ?hoa1 (by kernel_rfl) (by kernel_rfl) (by kernel_rfl) (fun _ _ _ h => h) (Or.inl ⟨?wna1, ?yna1⟩) (by assumption) ?resta1
        case hoa1 => (simp only [List.getElem?_toArray, List.getElem?_cons_zero, List.getElem?_cons_succ]; rfl)
        case wna1 => rfl
        case yna1 => (intro w hSw; (try dsimp only at hSw); go_simp; (try with_reducible rfl))
        (try simp only [Act.put, List.setIfInBounds_toArray, List.set_cons_zero, List.set_cons_succ])
        refine wpAnyH_take (i := 2) (oi := ?oa2) (v := ?va2) ?hoa2 (by kernel_rfl) (by kernel_rfl) (by kernel_rfl) (fun _ _ _ h => h) (Or.inl ⟨?wna2, ?yna2⟩) (by assumption) ?resta2
        case hoa2 => (simp only [List.getElem?_toArray, List.getElem?_cons_zero, List.getElem?_cons_succ]; rfl)
        case wna2 => rfl
        case yna2 => (intro w hSw; (try dsimp only at hSw); go_simp; (try with_reducible rfl))
        (try simp only [Act.put, List.setIfInBounds_toArray, List.set_cons_zero, List.set_cons_succ])
        refine wpAnyH_take (i := 3) (oi := ?oa3) (v := ?va3) ?hoa3 (by kernel_rfl) (by kernel_rfl) (by kernel_rfl) (fun _ _ _ h => h) (Or.inl ⟨?wna3, ?yna3⟩) (by assumption) ?resta3
        case hoa3 => (simp only [List.getElem?_toArray, List.getElem?_cons_zero, List.getElem?_cons_succ]; rfl)
        case wna3 => rfl
        case yna3 => (intro w hSw; (try dsimp only at hSw); go_simp; (try with_reducible rfl))
        (try simp only [Act.put, List.setIfInBounds_toArray, List.set_cons_zero, List.set_cons_succ])
        refine wpAnyH_take (i := 4) (oi := ?oa4) (v := ?va4) ?hoa4 (by kernel_rfl) (by kernel_rfl) (by kernel_rfl) (fun _ _ _ h => h) (Or.inl ⟨?wna4, ?yna4⟩) (by assumption) ?resta4
        case hoa4 => (simp only [List.getElem?_toArray, List.getElem?_cons_zero, List.getElem?_cons_succ]; rfl)
        case wna4 => rfl
        case yna4 => (intro w hSw; (try dsimp only at hSw); go_simp; (try with_reducible rfl))
        (try simp only [Act.put, List.setIfInBounds_toArray, List.set_cons_zero, List.set_cons_succ])
        refine wpAnyH_take (i := 5) (oi := ?oa5) (v := ?va5) ?hoa5 (by kernel_rfl) (by kernel_rfl) (by kernel_rfl) (fun _ _ _ h => h) (Or.inl ⟨?wna5, ?yna5⟩) (by assumption) ?resta5
        case hoa5 => (simp only [List.getElem?_toArray, List.getElem?_cons_zero, List.getElem?_cons_succ]; rfl)
        case wna5 => rfl
        case yna5 => (intro w hSw; (try dsimp only at hSw); go_simp; (try with_reducible rfl))
        (try simp only [Act.put, List.setIfInBounds_toArray, List.set_cons_zero, List.set_cons_succ])
        refine wpAnyH_take (i := 6) (oi := ?oa6) (v := ?va6) ?hoa6 (by kernel_rfl) (by kernel_rfl) (by kernel_rfl) (fun _ _ _ h => h) (Or.inl ⟨?wna6, ?yna6⟩) (by assumption) ?resta6
        case hoa6 => (simp only [List.getElem?_toArray, List.getElem?_cons_zero, List.getElem?_cons_succ]; rfl)
        case wna6 => rfl
        case yna6 => (intro w hSw; (try dsimp only at hSw); go_simp; (try with_reducible rfl))
        (try simp only [Act.put, List.setIfInBounds_toArray, List.set_cons_zero, List.set_cons_succ])
        refine wpAnyH_take (i := 7) (oi := ?oa7) (v := ?va7) ?hoa7 (by kernel_rfl) (by kernel_rfl) (by kernel_rfl) (fun _ _ _ h => h) (Or.inl ⟨?wna7, ?yna7⟩) (by assumption) ?resta7
        case hoa7 => (simp only [List.getElem?_toArray, List.getElem?_cons_zero, List.getElem?_cons_succ]; rfl)
        case wna7 => rfl
        case yna7 => (intro w hSw; (try dsimp only at hSw); go_simp; (try with_reducible rfl))
        (try simp only [Act.put, List.setIfInBounds_toArray, List.set_cons_zero, List.set_cons_succ])
        refine wpAnyH_take (i := 8) (oi := ?oa8) (v := ?va8) ?hoa8 (by kernel_rfl) (by kernel_rfl) (by kernel_rfl) (fun _ _ _ h => h) (Or.inl ⟨?wna8, ?yna8⟩) (by assumption) ?resta8
        case hoa8 => (simp only [List.getElem?_toArray, List.getElem?_cons_zero, List.getElem?_cons_succ]; rfl)
        case wna8 => rfl
        case yna8 => (intro w hSw; (try dsimp only at hSw); go_simp; (try with_reducible rfl))
        (try simp only [Act.put, List.setIfInBounds_toArray, List.set_cons_zero, List.set_cons_succ])
        refine wpAnyH_take (i := 9) (oi := ?oa9) (v := ?va9) ?hoa9 (by kernel_rfl) (by kernel_rfl) (by kernel_rfl) (fun _ _ _ h => h) (Or.inl ⟨?wna9, ?yna9⟩) (by assumption) ?resta9
        case hoa9 => (simp only [List.getElem?_toArray, List.getElem?_cons_zero, List.getElem?_cons_succ]; rfl)
        case wna9 => rfl
        case yna9 => (intro w hSw; (try dsimp only at hSw); go_simp; (try with_reducible rfl))
        (try simp only [Act.put, List.setIfInBounds_toArray, List.set_cons_zero, List.set_cons_succ])
        refine wpAnyH_take (i := 10) (oi := ?oa10) (v := ?va10) ?hoa10 (by kernel_rfl) (by kernel_rfl) (by kernel_rfl) (fun _ _ _ h => h) (Or.inl ⟨?wna10, ?yna10⟩) (by assumption) ?resta10
        case hoa10 => (simp only [List.getElem?_toArray, List.getElem?_cons_zero, List.getElem?_cons_succ]; rfl)
        case wna10 => rfl
        case yna10 => (intro w hSw; (try dsimp only at hSw); go_simp; (try with_reducible rfl))
        (try simp only [Act.put, List.setIfInBounds_toArray, List.set_cons_zero, List.set_cons_succ])
        refine wpAnyH_take (i := 11) (oi := ?oa11) (v := ?va11) ?hoa11 (by kernel_rfl) (by kernel_rfl) (by kernel_rfl) (fun _ _ _ h => h) (Or.inl ⟨?wna11, ?yna11⟩) (by assumption) ?resta11
        case hoa11 => (simp only [List.getElem?_toArray, List.getElem?_cons_zero, List.getElem?_cons_succ]; rfl)
        case wna11 => rfl
        case yna11 => (intro w hSw; (try dsimp only at hSw); go_simp; (try with_reducible rfl))
        (try simp only [Act.put, List.setIfInBounds_toArray, List.set_cons_zero, List.set_cons_succ])
        refine wpAnyH_take (i := 12) (oi := ?oa12) (v := undef) ?hoa12 (by kernel_rfl) (by kernel_rfl) (by kernel_rfl) (fun _ _ _ h => h) (Or.inr ⟨?wna12, rfl⟩) (by assumption) ?resta12
        case hoa12 => (simp only [List.getElem?_toArray, List.getElem?_cons_zero, List.getElem?_cons_succ]; rfl)
        case wna12 => rfl
        (try simp only [Act.put, List.setIfInBounds_toArray, List.set_cons_zero, List.set_cons_succ])
        refine wpAnyH_take (i := 13) (oi := ?oa13) (v := undef) ?hoa13 (by kernel_rfl) (by kernel_rfl) (by kernel_rfl) (fun _ _ _ h => h) (Or.inr ⟨?wna13, rfl⟩) (by assumption) ?resta13
        case hoa13 => (simp only [List.getElem?_toArray, List.getElem?_cons_zero, List.getElem?_cons_succ]; rfl)
        case wna13 => rfl
        (try simp only [Act.put, List.setIfInBounds_toArray, List.set_cons_zero, List.set_cons_succ])
        refine wpAnyH_take (i := 14) (oi := ?oa14) (v := undef) ?hoa14 (by kernel_rfl) (by kernel_rfl) (by kernel_rfl) (fun _ _ _ h => h) (Or.inr ⟨?wna14, rfl⟩) (by assumption) ?resta14
        case hoa14 => (simp only [List.getElem?_toArray, List.getElem?_cons_zero, List.getElem?_cons_succ]; rfl)
        case wna14 => rfl
        (try simp only [Act.put, List.setIfInBounds_toArray, List.set_cons_zero, List.set_cons_succ])
        refine wpAnyH_take (i := 15) (oi := ?oa15) (v := undef) ?hoa15 (by kernel_rfl) (by kernel_rfl) (by kernel_rfl) (fun _ _ _ h => h) (Or.inr ⟨?wna15, rfl⟩) (by assumption) ?resta15
        case hoa15 => (simp only [List.getElem?_toArray, List.getElem?_cons_zero, List.getElem?_cons_succ]; rfl)
        case wna15 => rfl
        (try simp only [Act.put, List.setIfInBounds_toArray, List.set_cons_zero, List.set_cons_succ])
        refine wpAnyH_take (i := 16) (oi := ?oa16) (v := undef) ?hoa16 (by kernel_rfl) (by kernel_rfl) (by kernel_rfl) (fun _ _ _ h => h) (Or.inr ⟨?wna16, rfl⟩) (by assumption) ?resta16
        case hoa16 => (simp only [List.getElem?_toArray, List.getElem?_cons_zero, List.getElem?_cons_succ]; rfl)
        case wna16 => rfl
        (try simp only [Act.put, List.setIfInBounds_toArray, List.set_cons_zero, List.set_cons_succ])
        refine wpAnyH_take (i := 17) (oi := ?oa17) (v := undef) ?hoa17 (by kernel_rfl) (by kernel_rfl) (by kernel_rfl) (fun _ _ _ h => h) (Or.inr ⟨?wna17, rfl⟩) (by assumption) ?resta17
        case hoa17 => (simp only [List.getElem?_toArray, List.getElem?_cons_zero, List.getElem?_cons_succ]; rfl)
        case wna17 => rfl
        (try simp only [Act.put, List.setIfInBounds_toArray, List.set_cons_zero, List.set_cons_succ])
        refine wpAnyH_take (i := 18) (oi := ?oa18) (v := undef) ?hoa18 (by kernel_rfl) (by kernel_rfl) (by kernel_rfl) (fun _ _ _ h => h) (Or.inr ⟨?wna18, rfl⟩) (by assumption) ?resta18
        case hoa18 => (simp only [List.getElem?_toArray, List.getElem?_cons_zero, List.getElem?_cons_succ]; rfl)
        case wna18 => rfl
        (try simp only [Act.put, List.setIfInBounds_toArray, List.set_cons_zero, List.set_cons_succ])
        refine wpAnyH_take (i := 19) (oi := ?oa19) (v := undef) ?hoa19 (by kernel_rfl) (by kernel_rfl) (by kernel_rfl) (fun _ _ _ h => h) (Or.inr ⟨?wna19, rfl⟩) (by assumption) ?resta19
        case hoa19 => (simp only [List.getElem?_toArray, List.getElem?_cons_zero, List.getElem?_cons_succ]; rfl)
        case wna19 => rfl
        (try simp only [Act.put, List.setIfInBounds_toArray, List.set_cons_zero, List.set_cons_succ])
        refine wpAnyH_take (i := 20) (oi := ?oa20) (v := undef) ?hoa20 (by kernel_rfl) (by kernel_rfl) (by kernel_rfl) (fun _ _ _ h => h) (Or.inr ⟨?wna20, rfl⟩) (by assumption) ?resta20
        case hoa20 => (simp only [List.getElem?_toArray, List.getElem?_cons_zero, List.getElem?_cons_succ]; rfl)
        case wna20 => rfl
        (try simp only [Act.put, List.setIfInBounds_toArray, List.set_cons_zero, List.set_cons_succ])
        refine wpAnyH_take (i := 21) (oi := ?oa21) (v := undef) ?hoa21 (by kernel_rfl) (by kernel_rfl) (by kernel_rfl) (fun _ _ _ h => h) (Or.inr ⟨?wna21, rfl⟩) (by assumption) ?resta21
        case hoa21 => (simp only [List.getElem?_toArray, List.getElem?_cons_zero, List.getElem?_cons_succ]; rfl)
        case wna21 => rfl
        (try simp only [Act.put, List.setIfInBounds_toArray, List.set_cons_zero, List.set_cons_succ])
        refine wpAnyH_take (i := 22) (oi := ?oa22) (v := undef) ?hoa22 (by kernel_rfl) (by kernel_rfl) (by kernel_rfl) (fun _ _ _ h => h) (Or.inr ⟨?wna22, rfl⟩) (by assumption) ?resta22
        case hoa22 => (simp only [List.getElem?_toArray, List.getElem?_cons_zero, List.getElem?_cons_succ]; rfl)
        case wna22 => rfl
        (try simp only [Act.put, List.setIfInBounds_toArray, List.set_cons_zero, List.set_cons_succ])
        refine wpAnyH_take (i := 23) (oi := ?oa23) (v := ?va23) ?hoa23 (by kernel_rfl) (by kernel_rfl) (by kernel_rfl) (fun _ _ _ h => h) (Or.inl ⟨?wna23, ?yna23⟩) (by assumption) ?resta23
        case hoa23 => (simp only [List.getElem?_toArray, List.getElem?_cons_zero, List.getElem?_cons_succ]; rfl)
        case wna23 => rfl
        case yna23 => (intro w hSw; (try dsimp only at hSw); go_simp; (try with_reducible rfl))
        (try simp only [Act.put, List.setIfInBounds_toArray, List.set_cons_zero, List.set_cons_succ])
        refine wpAnyH_take (i := 24) (oi := ?oa24) (v := ?va24) ?hoa24 (by kernel_rfl) (by kernel_rfl) (by kernel_rfl) (fun _ _ _ h => h) (Or.inl ⟨?wna24, ?yna24⟩) (by assumption) ?resta24
        case hoa24 => (simp only [List.getElem?_toArray, List.getElem?_cons_zero, List.getElem?_cons_succ]; rfl)
        case wna24 => rfl
        case yna24 => (intro w hSw; (try dsimp only at hSw); go_simp; (try with_reducible rfl))
        (try simp only [Act.put, List.setIfInBounds_toArray, List.set_cons_zero, List.set_cons_succ])
        refine wpAnyH_take (i := 25) (oi := ?oa25) (v := undef) ?hoa25 (by kernel_rfl) (by kernel_rfl) (by kernel_rfl) (fun _ _ _ h => h) (Or.inr ⟨?wna25, rfl⟩) (by assumption) ?resta25
        case hoa25 => (simp only [List.getElem?_toArray, List.getElem?_cons_zero, List.getElem?_cons_succ]; rfl)
        case wna25 => rfl
        (try simp only [Act.put, List.setIfInBounds_toArray, List.set_cons_zero, List.set_cons_succ])
        refine wpAnyH_take (i := 26) (oi := ?oa26) (v := undef) ?hoa26 (by kernel_rfl) (by kernel_rfl) (by kernel_rfl) (fun _ _ _ h => h) (Or.inr ⟨?wna26, rfl⟩) (by assumption) ?resta26
        case hoa26 => (simp only [List.getElem?_toArray, List.getElem?_cons_zero, List.getElem?_cons_succ]; rfl)
        case wna26 => rfl
        (try simp only [Act.put, List.setIfInBounds_toArray, List.set_cons_zero, List.set_cons_succ])
        refine wpAnyH_take (i := 27) (oi := ?oa27) (v := undef) ?hoa27 (by kernel_rfl) (by kernel_rfl) (by kernel_rfl) (fun _ _ _ h => h) (Or.inr ⟨?wna27, rfl⟩) (by assumption) ?resta27
        case hoa27 => (simp only [List.getElem?_toArray, List.getElem?_cons_zero, List.getElem?_cons_succ]; rfl)
        case wna27 => rfl
        (try simp only [Act.put, List.setIfInBounds_toArray, List.set_cons_zero, List.set_cons_succ])
        refine wpAnyH_take (i := 28) (oi := ?oa28) (v := undef) ?hoa28 (by kernel_rfl) (by kernel_rfl) (by kernel_rfl) (fun _ _ _ h => h) (Or.inr ⟨?wna28, rfl⟩) (by assumption) ?resta28
        case hoa28 => (simp only [List.getElem?_toArray, List.getElem?_cons_zero, List.getElem?_cons_succ]; rfl)
        case wna28 => rfl
        (try simp only [Act.put, List.setIfInBounds_toArray, List.set_cons_zero, List.set_cons_succ])
        refine wpAnyH_take (i := 29) (oi := ?oa29) (v := undef) ?hoa29 (by kernel_rfl) (by kernel_rfl) (by kernel_rfl) (fun _ _ _ h => h) (Or.inr ⟨?wna29, rfl⟩) (by assumption) ?resta29
        case hoa29 => (simp only [List.getElem?_toArray, List.getElem?_cons_zero, List.getElem?_cons_succ]; rfl)
        case wna29 => rfl
        (try simp only [Act.put, List.setIfInBounds_toArray, List.set_cons_zero, List.set_cons_succ])
        refine wpAnyH_take (i := 30) (oi := ?oa30) (v := undef) ?hoa30 (by kernel_rfl) (by kernel_rfl) (by kernel_rfl) (fun _ _ _ h => h) (Or.inr ⟨?wna30, rfl⟩) (by assumption) ?resta30
        case hoa30 => (simp only [List.getElem?_toArray, List.getElem?_cons_zero, List.getElem?_cons_succ]; rfl)
        case wna30 => rfl
        (try simp only [Act.put, List.setIfInBounds_toArray, List.set_cons_zero, List.set_cons_succ])
        refine wpAnyH_take (i := 31) (oi := ?oa31) (v := undef) ?hoa31 (by kernel_rfl) (by kernel_rfl) (by kernel_rfl) (fun _ _ _ h => h) (Or.inr ⟨?wna31, rfl⟩) (by assumption) ?resta31
        case hoa31 => (simp only [List.getElem?_toArray, List.getElem?_cons_zero, List.getElem?_cons_succ]; rfl)
        case wna31 => rfl
        (try simp only [Act.put, List.setIfInBounds_toArray, List.set_cons_zero, List.set_cons_succ])
        refine wpAnyH_take (i := 32) (oi := ?oa32) (v := undef) ?hoa32 (by kernel_rfl) (by kernel_rfl) (by kernel_rfl) (fun _ _ _ h => h) (Or.inr ⟨?wna32, rfl⟩) (by assumption) ?resta32
        case hoa32 => (simp only [List.getElem?_toArray, List.getElem?_cons_zero, List.getElem?_cons_succ]; rfl)
        case wna32 => rfl
        (try simp only [Act.put, List.setIfInBounds_toArray, List.set_cons_zero, List.set_cons_succ])
        refine wpAnyH_take (i := 33) (oi := ?oa33) (v := undef) ?hoa33 (by kernel_rfl) (by kernel_rfl) (by kernel_rfl) (fun _ _ _ h => h) (Or.inr ⟨?wna33, rfl⟩) (by assumption) ?resta33
        case hoa33 => (simp only [List.getElem?_toArray, List.getElem?_cons_zero, List.getElem?_cons_succ]; rfl)
        case wna33 => rfl
        (try simp only [Act.put, List.setIfInBounds_toArray, List.set_cons_zero, List.set_cons_succ])
        refine wpAnyH_take (i := 34) (oi := ?oa34) (v := undef) ?hoa34 (by kernel_rfl) (by kernel_rfl) (by kernel_rfl) (fun _ _ _ h => h) (Or.inr ⟨?wna34, rfl⟩) (by assumption) ?resta34
        case hoa34 => (simp only [List.getElem?_toArray, List.getElem?_cons_zero, List.getElem?_cons_succ]; rfl)
        case wna34 => rfl
        (try simp only [Act.put, List.setIfInBounds_toArray, List.set_cons_zero, List.set_cons_succ])
        refine wpAnyH_take (i := 35) (oi := ?oa35) (v := undef) ?hoa35 (by kernel_rfl) (by kernel_rfl) (by kernel_rfl) (fun _ _ _ h => h) (Or.inr ⟨?wna35, rfl⟩) (by assumption) ?resta35
        case hoa35 => (simp only [List.getElem?_toArray, List.getElem?_cons_zero, List.getElem?_cons_succ]; rfl)
        case wna35 => rfl
        (try simp only [Act.put, List.setIfInBounds_toArray, List.set_cons_zero, List.set_cons_succ])
        refine wpAnyH_take (i := 36) (oi := ?oa36) (v := undef) ?hoa36 (by kernel_rfl) (by kernel_rfl) (by kernel_rfl) (fun _ _ _ h => h) (Or.inr ⟨?wna36, rfl⟩) (by assumption) ?resta36
        case hoa36 => (simp only [List.getElem?_toArray, List.getElem?_cons_zero, List.getElem?_cons_succ]; rfl)
        case wna36 => rfl
        (try simp only [Act.put, List.setIfInBounds_toArray, List.set_cons_zero, List.set_cons_succ])
        refine wpAnyH_take (i := 37) (oi := ?oa37) (v := ?va37) ?hoa37 (by kernel_rfl) (by kernel_rfl) (by kernel_rfl) (fun _ _ _ h => h) (Or.inl ⟨?wna37, ?yna37⟩) (by assumption) ?resta37
        case hoa37 => (simp only [List.getElem?_toArray, List.getElem?_cons_zero, List.getElem?_cons_succ]; rfl)
        case wna37 => rfl
        case yna37 => (intro w hSw; (try dsimp only at hSw); go_simp; (try with_reducible rfl))
        (try simp only [Act.put, List.setIfInBounds_toArray, List.set_cons_zero, List.set_cons_succ])
        refine wpAnyH_done (by kernel_rfl) ?_ _
        refine NoPanic.normal ?_
        go_wp2
        go_ret
        exact ⟨rfl, hBd⟩
      by_cases hw : why = why2
      rotate_left
      · have t2 : (ep != ep2) = false := by rw [he]; simp
        have t3 : (why != why2) = true := bne_iff_ne.2 hw
        have hQf : Q = false := by cases Q; rfl; exact absurd (hk3.out rfl).2.1 hw
        obtain rfl := hQ3.out hQf
        clear he hw hQf hQ2 hQ3 hk3 hk4 gyes hal
        go_wp2_with fail
        refine wp_region_noPanic ?_
        refine wp_region_held_drew (S := fun w' => w'.cell? (ad.add (k * 14)) = some (.int .i64 ep) ∧ w'.cell? ⟨(ad.add (k * 14)).block, (ad.add (k * 14)).off + 1, none⟩ = some (.int .u8 why) ∧ w'.cell? ⟨(ad.add (k * 14)).block, (ad.add (k * 14)).off + 2, none⟩ = some (.bool ag0) ∧ w'.cell? ⟨(ad.add (k * 14)).block, (ad.add (k * 14)).off + 2 + 1, none⟩ = some (.slice aX0 an0 ac0) ∧ w'.cell? ⟨(ad.add (k * 14)).block, (ad.add (k * 14)).off + 2 + 2, none⟩ = some (.int .i64 ae0) ∧ w'.cell? ⟨(ad.add (k * 14)).block, (ad.add (k * 14)).off + 2 + 3, none⟩ = some (.bool ag1) ∧ w'.cell? ⟨(ad.add (k * 14)).block, (ad.add (k * 14)).off + 2 + 4, none⟩ = some (.slice aX1 an1 ac1) ∧ w'.cell? ⟨(ad.add (k * 14)).block, (ad.add (k * 14)).off + 2 + 5, none⟩ = some (.int .i64 ae1) ∧ w'.cell? ⟨(ad.add (k * 14)).block, (ad.add (k * 14)).off + 2 + 6, none⟩ = some (.bool ag2) ∧ w'.cell? ⟨(ad.add (k * 14)).block, (ad.add (k * 14)).off + 2 + 7, none⟩ = some (.slice aX2 an2 ac2) ∧ w'.cell? ⟨(ad.add (k * 14)).block, (ad.add (k * 14)).off + 2 + 8, none⟩ = some (.int .i64 ae2) ∧ w'.cell? ⟨(ad.add (k * 14)).block, (ad.add (k * 14)).off + 2 + 9, none⟩ = some (.bool ag3) ∧ w'.cell? ⟨(ad.add (k * 14)).block, (ad.add (k * 14)).off + 2 + 10, none⟩ = some (.slice aX3 an3 ac3) ∧ w'.cell? ⟨(ad.add (k * 14)).block, (ad.add (k * 14)).off + 2 + 11, none⟩ = some (.int .i64 ae3) ∧ w'.cell? (ad2.add (k * 14)) = some (.int .i64 ep2) ∧ w'.cell? ⟨(ad2.add (k * 14)).block, (ad2.add (k * 14)).off + 1, none⟩ = some (.int .u8 why2) ∧ w'.cell? ⟨(ad2.add (k * 14)).block, (ad2.add (k * 14)).off + 2, none⟩ = some (.bool bg0) ∧ w'.cell? ⟨(ad2.add (k * 14)).block, (ad2.add (k * 14)).off + 2 + 1, none⟩ = some (.slice bX0 bn0 bc0) ∧ w'.cell? ⟨(ad2.add (k * 14)).block, (ad2.add (k * 14)).off + 2 + 2, none⟩ = some (.int .i64 be0) ∧ w'.cell? ⟨(ad2.add (k * 14)).block, (ad2.add (k * 14)).off + 2 + 3, none⟩ = some (.bool bg1) ∧ w'.cell? ⟨(ad2.add (k * 14)).block, (ad2.add (k * 14)).off + 2 + 4, none⟩ = some (.slice bX1 bn1 bc1) ∧ w'.cell? ⟨(ad2.add (k * 14)).block, (ad2.add (k * 14)).off + 2 + 5, none⟩ = some (.int .i64 be1) ∧ w'.cell? ⟨(ad2.add (k * 14)).block, (ad2.add (k * 14)).off + 2 + 6, none⟩ = some (.bool bg2) ∧ w'.cell? ⟨(ad2.add (k * 14)).block, (ad2.add (k * 14)).off + 2 + 7, none⟩ = some (.slice bX2 bn2 bc2) ∧ w'.cell? ⟨(ad2.add (k * 14)).block, (ad2.add (k * 14)).off + 2 + 8, none⟩ = some (.int .i64 be2) ∧ w'.cell? ⟨(ad2.add (k * 14)).block, (ad2.add (k * 14)).off + 2 + 9, none⟩ = some (.bool bg3) ∧ w'.cell? ⟨(ad2.add (k * 14)).block, (ad2.add (k * 14)).off + 2 + 10, none⟩ = some (.slice bX3 bn3 bc3) ∧ w'.cell? ⟨(ad2.add (k * 14)).block, (ad2.add (k * 14)).off + 2 + 11, none⟩ = some (.int .i64 be3)) (by kernel_rfl) (SS _ hBd) (fun hHeld => ?_)
        refine wpAnyH_take (i := 0) (oi := ?ob0) (v := ?vb0) ?hob0 (by kernel_rfl) (by kernel_rfl) (by kernel_rfl) (fun _ _ _ h => h) (Or.inl ⟨?wnb0, ?ynb0⟩) (by assumption) ?restb0
        case hob0 => (simp only [List.getElem?_toArray, List.getElem?_cons_zero, List.getElem?_cons_succ]; rfl)
        case wnb0 => rfl
        case ynb0 => (intro w hSw; (try dsimp only at hSw); go_simp; (try with_reducible rfl))
        (try simp only [Act.put, List.setIfInBounds_toArray, List.set_cons_zero, List.set_cons_succ])
        refine wpAnyH_take (i := 1) (oi := ?ob1) (v := ?vb1) ?hob1 (by kernel_rfl) (by kernel_rfl) (by kernel_rfl) (fun _ _ _ h => h) (Or.inl ⟨?wnb1, ?ynb1⟩) (by assumption) ?restb1
        case hob1 => (simp only [List.getElem?_toArray, List.getElem?_cons_zero, List.getElem?_cons_succ]; rfl)
        case wnb1 => rfl
        case ynb1 => (intro w hSw; (try dsimp only at hSw); go_simp; (try with_reducible rfl))
        (try simp only [Act.put, List.setIfInBounds_toArray, List.set_cons_zero, List.set_cons_succ])
        refine wpAnyH_take (i := 2) (oi := ?ob2) (v := ?vb2) ?hob2 (by kernel_rfl) (by kernel_rfl) (by kernel_rfl) (fun _ _ _ h => h) (Or.inl ⟨?wnb2, ?ynb2⟩) (by assumption) ?restb2
        case hob2 => (simp only [List.getElem?_toArray, List.getElem?_cons_zero, List.getElem?_cons_succ]; rfl)
        case wnb2 => rfl
        case ynb2 => (intro w hSw; (try dsimp only at hSw); go_simp; (try with_reducible rfl))
        (try simp only [Act.put, List.setIfInBounds_toArray, List.set_cons_zero, List.set_cons_succ])
        refine wpAnyH_take (i := 3) (oi := ?ob3) (v := ?vb3) ?hob3 (by kernel_rfl) (by kernel_rfl) (by kernel_rfl) (fun _ _ _ h => h) (Or.inl ⟨?wnb3, ?ynb3⟩) (by assumption) ?restb3
        case hob3 => (simp only [List.getElem?_toArray, List.getElem?_cons_zero, List.getElem?_cons_succ]; rfl)
        case wnb3 => rfl
        case ynb3 => (intro w hSw; (try dsimp only at hSw); go_simp; (try with_reducible rfl))
        (try simp only [Act.put, List.setIfInBounds_toArray, List.set_cons_zero, List.set_cons_succ])
        refine wpAnyH_take (i := 4) (oi := ?ob4) (v := ?vb4) ?hob4 (by kernel_rfl) (by kernel_rfl) (by kernel_rfl) (fun _ _ _ h => h) (Or.inl ⟨?wnb4, ?ynb4⟩) (by assumption) ?restb4
        case hob4 => (simp only [List.getElem?_toArray, List.getElem?_cons_zero, List.getElem?_cons_succ]; rfl)
        case wnb4 => rfl
        case ynb4 => (intro w hSw; (try dsimp only at hSw); go_simp; (try with_reducible rfl))
        (try simp only [Act.put, List.setIfInBounds_toArray, List.set_cons_zero, List.set_cons_succ])
        refine wpAnyH_take (i := 5) (oi := ?ob5) (v := ?vb5) ?hob5 (by kernel_rfl) (by kernel_rfl) (by kernel_rfl) (fun _ _ _ h => h) (Or.inl ⟨?wnb5, ?ynb5⟩) (by assumption) ?restb5
        case hob5 => (simp only [List.getElem?_toArray, List.getElem?_cons_zero, List.getElem?_cons_succ]; rfl)
        case wnb5 => rfl
        case ynb5 => (intro w hSw; (try dsimp only at hSw); go_simp; (try with_reducible rfl))
        (try simp only [Act.put, List.setIfInBounds_toArray, List.set_cons_zero, List.set_cons_succ])
        refine wpAnyH_take (i := 6) (oi := ?ob6) (v := ?vb6) ?hob6 (by kernel_rfl) (by kernel_rfl) (by kernel_rfl) (fun _ _ _ h => h) (Or.inl ⟨?wnb6, ?ynb6⟩) (by assumption) ?restb6
        case hob6 => (simp only [List.getElem?_toArray, List.getElem?_cons_zero, List.getElem?_cons_succ]; rfl)
        case wnb6 => rfl
        case ynb6 => (intro w hSw; (try dsimp only at hSw); go_simp; (try with_reducible rfl))
        (try simp only [Act.put, List.setIfInBounds_toArray, List.set_cons_zero, List.set_cons_succ])
        refine wpAnyH_take (i := 7) (oi := ?ob7) (v := ?vb7) ?hob7 (by kernel_rfl) (by kernel_rfl) (by kernel_rfl) (fun _ _ _ h => h) (Or.inl ⟨?wnb7, ?ynb7⟩) (by assumption) ?restb7
        case hob7 => (simp only [List.getElem?_toArray, List.getElem?_cons_zero, List.getElem?_cons_succ]; rfl)
        case wnb7 => rfl
        case ynb7 => (intro w hSw; (try dsimp only at hSw); go_simp; (try with_reducible rfl))
        (try simp only [Act.put, List.setIfInBounds_toArray, List.set_cons_zero, List.set_cons_succ])
        refine wpAnyH_take (i := 8) (oi := ?ob8) (v := ?vb8) ?hob8 (by kernel_rfl) (by kernel_rfl) (by kernel_rfl) (fun _ _ _ h => h) (Or.inl ⟨?wnb8, ?ynb8⟩) (by assumption) ?restb8
        case hob8 => (simp only [List.getElem?_toArray, List.getElem?_cons_zero, List.getElem?_cons_succ]; rfl)
        case wnb8 => rfl
        case ynb8 => (intro w hSw; (try dsimp only at hSw); go_simp; (try with_reducible rfl))
        (try simp only [Act.put, List.setIfInBounds_toArray, List.set_cons_zero, List.set_cons_succ])
        refine wpAnyH_take (i := 9) (oi := ?ob9) (v := ?vb9) ?hob9 (by kernel_rfl) (by kernel_rfl) (by kernel_rfl) (fun _ _ _ h => h) (Or.inl ⟨?wnb9, ?ynb9⟩) (by assumption) ?restb9
        case hob9 => (simp only [List.getElem?_toArray, List.getElem?_cons_zero, List.getElem?_cons_succ]; rfl)
        case wnb9 => rfl
        case ynb9 => (intro w hSw; (try dsimp only at hSw); go_simp; (try with_reducible rfl))
        (try simp only [Act.put, List.setIfInBounds_toArray, List.set_cons_zero, List.set_cons_succ])
        refine wpAnyH_take (i := 10) (oi := ?ob10) (v := ?vb10) ?hob10 (by kernel_rfl) (by kernel_rfl) (by kernel_rfl) (fun _ _ _ h => h) (Or.inl ⟨?wnb10, ?ynb10⟩) (by assumption) ?restb10
        case hob10 => (simp only [List.getElem?_toArray, List.getElem?_cons_zero, List.getElem?_cons_succ]; rfl)
        case wnb10 => rfl
        case ynb10 => (intro w hSw; (try dsimp only at hSw); go_simp; (try with_reducible rfl))
        (try simp only [Act.put, List.setIfInBounds_toArray, List.set_cons_zero, List.set_cons_succ])
        refine wpAnyH_take (i := 11) (oi := ?ob11) (v := ?vb11) ?hob11 (by kernel_rfl) (by kernel_rfl) (by kernel_rfl) (fun _ _ _ h => h) (Or.inl ⟨?wnb11, ?ynb11⟩) (by assumption) ?restb11
        case hob11 => (simp only [List.getElem?_toArray, List.getElem?_cons_zero, List.getElem?_cons_succ]; rfl)
        case wnb11 => rfl
        case ynb11 => (intro w hSw; (try dsimp only at hSw); go_simp; (try with_reducible rfl))
        (try simp only [Act.put, List.setIfInBounds_toArray, List.set_cons_zero, List.set_cons_succ])
        refine wpAnyH_take (i := 12) (oi := ?ob12) (v := ?vb12) ?hob12 (by kernel_rfl) (by kernel_rfl) (by kernel_rfl) (fun _ _ _ h => h) (Or.inl ⟨?wnb12, ?ynb12⟩) (by assumption) ?restb12
        case hob12 => (simp only [List.getElem?_toArray, List.getElem?_cons_zero, List.getElem?_cons_succ]; rfl)
        case wnb12 => rfl
        case ynb12 => (intro w hSw; (try dsimp only at hSw); go_simp; (try with_reducible rfl))
        (try simp only [Act.put, List.setIfInBounds_toArray, List.set_cons_zero, List.set_cons_succ])
        refine wpAnyH_take (i := 13) (oi := ?ob13) (v := ?vb13) ?hob13 (by kernel_rfl) (by kernel_rfl) (by kernel_rfl) (fun _ _ _ h => h) (Or.inl ⟨?wnb13, ?ynb13⟩) (by assumption) ?restb13
        case hob13 => (simp only [List.getElem?_toArray, List.getElem?_cons_zero, List.getElem?_cons_succ]; rfl)
        case wnb13 => rfl
        case ynb13 => (intro w hSw; (try dsimp only at hSw); go_simp; (try with_reducible rfl))
        (try simp only [Act.put, List.setIfInBounds_toArray, List.set_cons_zero, List.set_cons_succ])
        refine wpAnyH_take (i := 14) (oi := ?ob14) (v := ?vb14) ?hob14 (by kernel_rfl) (by kernel_rfl) (by kernel_rfl) (fun _ _ _ h => h) (Or.inl ⟨?wnb14, ?ynb14⟩) (by assumption) ?restb14
        case hob14 => (simp only [List.getElem?_toArray, List.getElem?_cons_zero, List.getElem?_cons_succ]; rfl)
        case wnb14 => rfl
        case ynb14 => (intro w hSw; (try dsimp only at hSw); go_simp; (try with_reducible rfl))
        (try simp only [Act.put, List.setIfInBounds_toArray, List.set_cons_zero, List.set_cons_succ])
        refine wpAnyH_take (i := 15) (oi := ?ob15) (v := ?vb15) ?hob15 (by kernel_rfl) (by kernel_rfl) (by kernel_rfl) (fun _ _ _ h => h) (Or.inl ⟨?wnb15, ?ynb15⟩) (by assumption) ?restb15
        case hob15 => (simp only [List.getElem?_toArray, List.getElem?_cons_zero, List.getElem?_cons_succ]; rfl)
        case wnb15 => rfl
        case ynb15 => (intro w hSw; (try dsimp only at hSw); go_simp; (try with_reducible rfl))
        (try simp only [Act.put, List.setIfInBounds_toArray, List.set_cons_zero, List.set_cons_succ])
        refine wpAnyH_take (i := 16) (oi := ?ob16) (v := ?vb16) ?hob16 (by kernel_rfl) (by kernel_rfl) (by kernel_rfl) (fun _ _ _ h => h) (Or.inl ⟨?wnb16, ?ynb16⟩) (by assumption) ?restb16
        case hob16 => (simp only [List.getElem?_toArray, List.getElem?_cons_zero, List.getElem?_cons_succ]; rfl)
        case wnb16 => rfl
        case ynb16 => (intro w hSw; (try dsimp only at hSw); go_simp; (try with_reducible rfl))
        (try simp only [Act.put, List.setIfInBounds_toArray, List.set_cons_zero, List.set_cons_succ])
        refine wpAnyH_take (i := 17) (oi := ?ob17) (v := ?vb17) ?hob17 (by kernel_rfl) (by kernel_rfl) (by kernel_rfl) (fun _ _ _ h => h) (Or.inl ⟨?wnb17, ?ynb17⟩) (by assumption) ?restb17
        case hob17 => (simp only [List.getElem?_toArray, List.getElem?_cons_zero, List.getElem?_cons_succ]; rfl)
        case wnb17 => rfl
        case ynb17 => (intro w hSw; (try dsimp only at hSw); go_simp; (try with_reducible rfl))
        (try simp only [Act.put, List.setIfInBounds_toArray, List.set_cons_zero, List.set_cons_succ])
        refine wpAnyH_take (i := 18) (oi := ?ob18) (v := ?vb18) ?hob18 (by kernel_rfl) (by kernel_rfl) (by kernel_rfl) (fun _ _ _ h => h) (Or.inl ⟨?wnb18, ?ynb18⟩) (by assumption) ?restb18
        case hob18 => (simp only [List.getElem?_toArray, List.getElem?_cons_zero, List.getElem?_cons_succ]; rfl)
        case wnb18 => rfl
        case ynb18 => (intro w hSw; (try dsimp only at hSw); go_simp; (try with_reducible rfl))
        (try simp only [Act.put, List.setIfInBounds_toArray, List.set_cons_zero, List.set_cons_succ])
        refine wpAnyH_take (i := 19) (oi := ?ob19) (v := ?vb19) ?hob19 (by kernel_rfl) (by kernel_rfl) (by kernel_rfl) (fun _ _ _ h => h) (Or.inl ⟨?wnb19, ?ynb19⟩) (by assumption) ?restb19
        case hob19 => (simp only [List.getElem?_toArray, List.getElem?_cons_zero, List.getElem?_cons_succ]; rfl)
        case wnb19 => rfl
        case ynb19 => (intro w hSw; (try dsimp only at hSw); go_simp; (try with_reducible rfl))
        (try simp only [Act.put, List.setIfInBounds_toArray, List.set_cons_zero, List.set_cons_succ])
        refine wpAnyH_take (i := 20) (oi := ?ob20) (v := ?vb20) ?hob20 (by kernel_rfl) (by kernel_rfl) (by kernel_rfl) (fun _ _ _ h => h) (Or.inl ⟨?wnb20, ?ynb20⟩) (by assumption) ?restb20
        case hob20 => (simp only [List.getElem?_toArray, List.getElem?_cons_zero, List.getElem?_cons_succ]; rfl)
        case wnb20 => rfl
        case ynb20 => (intro w hSw; (try dsimp only at hSw); go_simp; (try with_reducible rfl))
        (try simp only [Act.put, List.setIfInBounds_toArray, List.set_cons_zero, List.set_cons_succ])
        refine wpAnyH_take (i := 21) (oi := ?ob21) (v := ?vb21) ?hob21 (by kernel_rfl) (by kernel_rfl) (by kernel_rfl) (fun _ _ _ h => h) (Or.inl ⟨?wnb21, ?ynb21⟩) (by assumption) ?restb21
        case hob21 => (simp only [List.getElem?_toArray, List.getElem?_cons_zero, List.getElem?_cons_succ]; rfl)
        case wnb21 => rfl
        case ynb21 => (intro w hSw; (try dsimp only at hSw); go_simp; (try with_reducible rfl))
        (try simp only [Act.put, List.setIfInBounds_toArray, List.set_cons_zero, List.set_cons_succ])
        refine wpAnyH_take (i := 22) (oi := ?ob22) (v := ?vb22) ?hob22 (by kernel_rfl) (by kernel_rfl) (by kernel_rfl) (fun _ _ _ h => h) (Or.inl ⟨?wnb22, ?ynb22⟩) (by assumption) ?restb22
        case hob22 => (simp only [List.getElem?_toArray, List.getElem?_cons_zero, List.getElem?_cons_succ]; rfl)
        case wnb22 => rfl
        case ynb22 => (intro w hSw; (try dsimp only at hSw); go_simp; (try with_reducible rfl))
        (try simp only [Act.put, List.setIfInBounds_toArray, List.set_cons_zero, List.set_cons_succ])
        refine wpAnyH_take (i := 23) (oi := ?ob23) (v := ?vb23) ?hob23 (by kernel_rfl) (by kernel_rfl) (by kernel_rfl) (fun _ _ _ h => h) (Or.inl ⟨?wnb23, ?ynb23⟩) (by assumption) ?restb23
        case hob23 => (simp only [List.getElem?_toArray, List.getElem?_cons_zero, List.getElem?_cons_succ]; rfl)
        case wnb23 => rfl
        case ynb23 => (intro w hSw; (try dsimp only at hSw); go_simp; (try with_reducible rfl))
        (try simp only [Act.put, List.setIfInBounds_toArray, List.set_cons_zero, List.set_cons_succ])
        refine wpAnyH_take (i := 24) (oi := ?ob24) (v := ?vb24) ?hob24 (by kernel_rfl) (by kernel_rfl) (by kernel_rfl) (fun _ _ _ h => h) (Or.inl ⟨?wnb24, ?ynb24⟩) (by assumption) ?restb24
        case hob24 => (simp only [List.getElem?_toArray, List.getElem?_cons_zero, List.getElem?_cons_succ]; rfl)
        case wnb24 => rfl
        case ynb24 => (intro w hSw; (try dsimp only at hSw); go_simp; (try with_reducible rfl))
        (try simp only [Act.put, List.setIfInBounds_toArray, List.set_cons_zero, List.set_cons_succ])
        refine wpAnyH_take (i := 25) (oi := ?ob25) (v := undef) ?hob25 (by kernel_rfl) (by kernel_rfl) (by kernel_rfl) (fun _ _ _ h => h) (Or.inr ⟨?wnb25, rfl⟩) (by assumption) ?restb25
        case hob25 => (simp only [List.getElem?_toArray, List.getElem?_cons_zero, List.getElem?_cons_succ]; rfl)
        case wnb25 => rfl
        (try simp only [Act.put, List.setIfInBounds_toArray, List.set_cons_zero, List.set_cons_succ])
        refine wpAnyH_take (i := 26) (oi := ?ob26) (v := undef) ?hob26 (by kernel_rfl) (by kernel_rfl) (by kernel_rfl) (fun _ _ _ h => h) (Or.inr ⟨?wnb26, rfl⟩) (by assumption) ?restb26
        case hob26 => (simp only [List.getElem?_toArray, List.getElem?_cons_zero, List.getElem?_cons_succ]; rfl)
        case wnb26 => rfl
        (try simp only [Act.put, List.setIfInBounds_toArray, List.set_cons_zero, List.set_cons_succ])
        refine wpAnyH_take (i := 27) (oi := ?ob27) (v := undef) ?hob27 (by kernel_rfl) (by kernel_rfl) (by kernel_rfl) (fun _ _ _ h => h) (Or.inr ⟨?wnb27, rfl⟩) (by assumption) ?restb27
        case hob27 => (simp only [List.getElem?_toArray, List.getElem?_cons_zero, List.getElem?_cons_succ]; rfl)
        case wnb27 => rfl
        (try simp only [Act.put, List.setIfInBounds_toArray, List.set_cons_zero, List.set_cons_succ])
        refine wpAnyH_take (i := 28) (oi := ?ob28) (v := undef) ?hob28 (by kernel_rfl) (by kernel_rfl) (by kernel_rfl) (fun _ _ _ h => h) (Or.inr ⟨?wnb28, rfl⟩) (by assumption) ?restb28
        case hob28 => (simp only [List.getElem?_toArray, List.getElem?_cons_zero, List.getElem?_cons_succ]; rfl)
        case wnb28 => rfl
        (try simp only [Act.put, List.setIfInBounds_toArray, List.set_cons_zero, List.set_cons_succ])
        refine wpAnyH_take (i := 29) (oi := ?ob29) (v := undef) ?hob29 (by kernel_rfl) (by kernel_rfl) (by kernel_rfl) (fun _ _ _ h => h) (Or.inr ⟨?wnb29, rfl⟩) (by assumption) ?restb29
        case hob29 => (simp only [List.getElem?_toArray, List.getElem?_cons_zero, List.getElem?_cons_succ]; rfl)
        case wnb29 => rfl
        (try simp only [Act.put, List.setIfInBounds_toArray, List.set_cons_zero, List.set_cons_succ])
        refine wpAnyH_take (i := 30) (oi := ?ob30) (v := undef) ?hob30 (by kernel_rfl) (by kernel_rfl) (by kernel_rfl) (fun _ _ _ h => h) (Or.inr ⟨?wnb30, rfl⟩) (by assumption) ?restb30
        case hob30 => (simp only [List.getElem?_toArray, List.getElem?_cons_zero, List.getElem?_cons_succ]; rfl)
        case wnb30 => rfl
        (try simp only [Act.put, List.setIfInBounds_toArray, List.set_cons_zero, List.set_cons_succ])
        refine wpAnyH_take (i := 31) (oi := ?ob31) (v := undef) ?hob31 (by kernel_rfl) (by kernel_rfl) (by kernel_rfl) (fun _ _ _ h => h) (Or.inr ⟨?wnb31, rfl⟩) (by assumption) ?restb31
        case hob31 => (simp only [List.getElem?_toArray, List.getElem?_cons_zero, List.getElem?_cons_succ]; rfl)
        case wnb31 => rfl
        (try simp only [Act.put, List.setIfInBounds_toArray, List.set_cons_zero, List.set_cons_succ])
        refine wpAnyH_take (i := 32) (oi := ?ob32) (v := undef) ?hob32 (by kernel_rfl) (by kernel_rfl) (by kernel_rfl) (fun _ _ _ h => h) (Or.inr ⟨?wnb32, rfl⟩) (by assumption) ?restb32
        case hob32 => (simp only [List.getElem?_toArray, List.getElem?_cons_zero, List.getElem?_cons_succ]; rfl)
        case wnb32 => rfl
        (try simp only [Act.put, List.setIfInBounds_toArray, List.set_cons_zero, List.set_cons_succ])
        refine wpAnyH_take (i := 33) (oi := ?ob33) (v := undef) ?hob33 (by kernel_rfl) (by kernel_rfl) (by kernel_rfl) (fun _ _ _ h => h) (Or.inr ⟨?wnb33, rfl⟩) (by assumption) ?restb33
        case hob33 => (simp only [List.getElem?_toArray, List.getElem?_cons_zero, List.getElem?_cons_succ]; rfl)
        case wnb33 => rfl
        (try simp only [Act.put, List.setIfInBounds_toArray, List.set_cons_zero, List.set_cons_succ])
        refine wpAnyH_take (i := 34) (oi := ?ob34) (v := undef) ?hob34 (by kernel_rfl) (by kernel_rfl) (by kernel_rfl) (fun _ _ _ h => h) (Or.inr ⟨?wnb34, rfl⟩) (by assumption) ?restb34
        case hob34 => (simp only [List.getElem?_toArray, List.getElem?_cons_zero, List.getElem?_cons_succ]; rfl)
        case wnb34 => rfl
        (try simp only [Act.put, List.setIfInBounds_toArray, List.set_cons_zero, List.set_cons_succ])
        refine wpAnyH_take (i := 35) (oi := ?ob35) (v := undef) ?hob35 (by kernel_rfl) (by kernel_rfl) (by kernel_rfl) (fun _ _ _ h => h) (Or.inr ⟨?wnb35, rfl⟩) (by assumption) ?restb35
        case hob35 => (simp only [List.getElem?_toArray, List.getElem?_cons_zero, List.getElem?_cons_succ]; rfl)
        case wnb35 => rfl
        (try simp only [Act.put, List.setIfInBounds_toArray, List.set_cons_zero, List.set_cons_succ])
        refine wpAnyH_take (i := 36) (oi := ?ob36) (v := undef) ?hob36 (by kernel_rfl) (by kernel_rfl) (by kernel_rfl) (fun _ _ _ h => h) (Or.inr ⟨?wnb36, rfl⟩) (by assumption) ?restb36
        case hob36 => (simp only [List.getElem?_toArray, List.getElem?_cons_zero, List.getElem?_cons_succ]; rfl)
        case wnb36 => rfl
        (try simp only [Act.put, List.setIfInBounds_toArray, List.set_cons_zero, List.set_cons_succ])
        refine wpAnyH_take (i := 37) (oi := ?ob37) (v := ?vb37) ?hob37 (by kernel_rfl) (by kernel_rfl) (by kernel_rfl) (fun _ _ _ h => h) (Or.inl ⟨?wnb37, ?ynb37⟩) (by assumption) ?restb37
        case hob37 => (simp only [List.getElem?_toArray, List.getElem?_cons_zero, List.getElem?_cons_succ]; rfl)
        case wnb37 => rfl
        case ynb37 => (intro w hSw; (try dsimp only at hSw); go_simp; (try with_reducible rfl))
        (try simp only [Act.put, List.setIfInBounds_toArray, List.set_cons_zero, List.set_cons_succ])
        refine wpAnyH_done (by kernel_rfl) ?_ _
        refine NoPanic.normal ?_
        go_wp2
        go_ret
        exact ⟨rfl, hBd⟩
      have t2 : (ep != ep2) = false := by rw [he]; simp
      have t3 : (why != why2) = false := by rw [hw]; simp
      have hc := fun w' (h : Below w.heap.size w w') => hal w' h (hk4.out he hw)
      clear he hw hk3 hk4 hal hB
      cases Q
      · obtain rfl := hQ3.out rfl
        clear gyes hQ2 hQ3
        go_wp2_with fail
        refine wp_region_noPanic ?_
        refine wp_region_held_drew (S := fun w' => w'.cell? (ad.add (k * 14)) = some (.int .i64 ep) ∧ w'.cell? ⟨(ad.add (k * 14)).block, (ad.add (k * 14)).off + 1, none⟩ = some (.int .u8 why) ∧ w'.cell? ⟨(ad.add (k * 14)).block, (ad.add (k * 14)).off + 2, none⟩ = some (.bool ag0) ∧ w'.cell? ⟨(ad.add (k * 14)).block, (ad.add (k * 14)).off + 2 + 1, none⟩ = some (.slice aX0 an0 ac0) ∧ w'.cell? ⟨(ad.add (k * 14)).block, (ad.add (k * 14)).off + 2 + 2, none⟩ = some (.int .i64 ae0) ∧ w'.cell? ⟨(ad.add (k * 14)).block, (ad.add (k * 14)).off + 2 + 3, none⟩ = some (.bool ag1) ∧ w'.cell? ⟨(ad.add (k * 14)).block, (ad.add (k * 14)).off + 2 + 4, none⟩ = some (.slice aX1 an1 ac1) ∧ w'.cell? ⟨(ad.add (k * 14)).block, (ad.add (k * 14)).off + 2 + 5, none⟩ = some (.int .i64 ae1) ∧ w'.cell? ⟨(ad.add (k * 14)).block, (ad.add (k * 14)).off + 2 + 6, none⟩ = some (.bool ag2) ∧ w'.cell? ⟨(ad.add (k * 14)).block, (ad.add (k * 14)).off + 2 + 7, none⟩ = some (.slice aX2 an2 ac2) ∧ w'.cell? ⟨(ad.add (k * 14)).block, (ad.add (k * 14)).off + 2 + 8, none⟩ = some (.int .i64 ae2) ∧ w'.cell? ⟨(ad.add (k * 14)).block, (ad.add (k * 14)).off + 2 + 9, none⟩ = some (.bool ag3) ∧ w'.cell? ⟨(ad.add (k * 14)).block, (ad.add (k * 14)).off + 2 + 10, none⟩ = some (.slice aX3 an3 ac3) ∧ w'.cell? ⟨(ad.add (k * 14)).block, (ad.add (k * 14)).off + 2 + 11, none⟩ = some (.int .i64 ae3) ∧ w'.cell? (ad2.add (k * 14)) = some (.int .i64 ep2) ∧ w'.cell? ⟨(ad2.add (k * 14)).block, (ad2.add (k * 14)).off + 1, none⟩ = some (.int .u8 why2) ∧ w'.cell? ⟨(ad2.add (k * 14)).block, (ad2.add (k * 14)).off + 2, none⟩ = some (.bool bg0) ∧ w'.cell? ⟨(ad2.add (k * 14)).block, (ad2.add (k * 14)).off + 2 + 1, none⟩ = some (.slice bX0 bn0 bc0) ∧ w'.cell? ⟨(ad2.add (k * 14)).block, (ad2.add (k * 14)).off + 2 + 2, none⟩ = some (.int .i64 be0) ∧ w'.cell? ⟨(ad2.add (k * 14)).block, (ad2.add (k * 14)).off + 2 + 3, none⟩ = some (.bool bg1) ∧ w'.cell? ⟨(ad2.add (k * 14)).block, (ad2.add (k * 14)).off + 2 + 4, none⟩ = some (.slice bX1 bn1 bc1) ∧ w'.cell? ⟨(ad2.add (k * 14)).block, (ad2.add (k * 14)).off + 2 + 5, none⟩ = some (.int .i64 be1) ∧ w'.cell? ⟨(ad2.add (k * 14)).block, (ad2.add (k * 14)).off + 2 + 6, none⟩ = some (.bool bg2) ∧ w'.cell? ⟨(ad2.add (k * 14)).block, (ad2.add (k * 14)).off + 2 + 7, none⟩ = some (.slice bX2 bn2 bc2) ∧ w'.cell? ⟨(ad2.add (k * 14)).block, (ad2.add (k * 14)).off + 2 + 8, none⟩ = some (.int .i64 be2) ∧ w'.cell? ⟨(ad2.add (k * 14)).block, (ad2.add (k * 14)).off + 2 + 9, none⟩ = some (.bool bg3) ∧ w'.cell? ⟨(ad2.add (k * 14)).block, (ad2.add (k * 14)).off + 2 + 10, none⟩ = some (.slice bX3 bn3 bc3) ∧ w'.cell? ⟨(ad2.add (k * 14)).block, (ad2.add (k * 14)).off + 2 + 11, none⟩ = some (.int .i64 be3)) (by kernel_rfl) (SS _ hBd) (fun hHeld => ?_)
        refine wpAnyH_take (i := 0) (oi := ?oc0) (v := ?vc0) ?hoc0 (by kernel_rfl) (by kernel_rfl) (by kernel_rfl) (fun _ _ _ h => h) (Or.inl ⟨?wnc0, ?ync0⟩) (by assumption) ?restc0
        case hoc0 => (simp only [List.getElem?_toArray, List.getElem?_cons_zero, List.getElem?_cons_succ]; rfl)
        case wnc0 => rfl
        case ync0 => (intro w hSw; (try dsimp only at hSw); go_simp; (try with_reducible rfl))
        (try simp only [Act.put, List.setIfInBounds_toArray, List.set_cons_zero, List.set_cons_succ])
        refine wpAnyH_take (i := 1) (oi := ?oc1) (v := ?vc1) ?hoc1 (by kernel_rfl) (by kernel_rfl) (by kernel_rfl) (fun _ _ _ h => h) (Or.inl ⟨?wnc1, ?ync1⟩) (by assumption) ?restc1
        case hoc1 => (simp only [List.getElem?_toArray, List.getElem?_cons_zero, List.getElem?_cons_succ]; rfl)
        case wnc1 => rfl
        case ync1 => (intro w hSw; (try dsimp only at hSw); go_simp; (try with_reducible rfl))
        (try simp only [Act.put, List.setIfInBounds_toArray, List.set_cons_zero, List.set_cons_succ])
        refine wpAnyH_take (i := 2) (oi := ?oc2) (v := ?vc2) ?hoc2 (by kernel_rfl) (by kernel_rfl) (by kernel_rfl) (fun _ _ _ h => h) (Or.inl ⟨?wnc2, ?ync2⟩) (by assumption) ?restc2
        case hoc2 => (simp only [List.getElem?_toArray, List.getElem?_cons_zero, List.getElem?_cons_succ]; rfl)
        case wnc2 => rfl
        case ync2 => (intro w hSw; (try dsimp only at hSw); go_simp; (try with_reducible rfl))
        (try simp only [Act.put, List.setIfInBounds_toArray, List.set_cons_zero, List.set_cons_succ])
        refine wpAnyH_take (i := 3) (oi := ?oc3) (v := ?vc3) ?hoc3 (by kernel_rfl) (by kernel_rfl) (by kernel_rfl) (fun _ _ _ h => h) (Or.inl ⟨?wnc3, ?ync3⟩) (by assumption) ?restc3
        case hoc3 => (simp only [List.getElem?_toArray, List.getElem?_cons_zero, List.getElem?_cons_succ]; rfl)
        case wnc3 => rfl
        case ync3 => (intro w hSw; (try dsimp only at hSw); go_simp; (try with_reducible rfl))
        (try simp only [Act.put, List.setIfInBounds_toArray, List.set_cons_zero, List.set_cons_succ])
        refine wpAnyH_take (i := 4) (oi := ?oc4) (v := ?vc4) ?hoc4 (by kernel_rfl) (by kernel_rfl) (by kernel_rfl) (fun _ _ _ h => h) (Or.inl ⟨?wnc4, ?ync4⟩) (by assumption) ?restc4
        case hoc4 => (simp only [List.getElem?_toArray, List.getElem?_cons_zero, List.getElem?_cons_succ]; rfl)
        case wnc4 => rfl
        case ync4 => (intro w hSw; (try dsimp only at hSw); go_simp; (try with_reducible rfl))
        (try simp only [Act.put, List.setIfInBounds_toArray, List.set_cons_zero, List.set_cons_succ])
        refine wpAnyH_take (i := 5) (oi := ?oc5) (v := ?vc5) ?hoc5 (by kernel_rfl) (by kernel_rfl) (by kernel_rfl) (fun _ _ _ h => h) (Or.inl ⟨?wnc5, ?ync5⟩) (by assumption) ?restc5
        case hoc5 => (simp only [List.getElem?_toArray, List.getElem?_cons_zero, List.getElem?_cons_succ]; rfl)
        case wnc5 => rfl
        case ync5 => (intro w hSw; (try dsimp only at hSw); go_simp; (try with_reducible rfl))
        (try simp only [Act.put, List.setIfInBounds_toArray, List.set_cons_zero, List.set_cons_succ])
        refine wpAnyH_take (i := 6) (oi := ?oc6) (v := ?vc6) ?hoc6 (by kernel_rfl) (by kernel_rfl) (by kernel_rfl) (fun _ _ _ h => h) (Or.inl ⟨?wnc6, ?ync6⟩) (by assumption) ?restc6
        case hoc6 => (simp only [List.getElem?_toArray, List.getElem?_cons_zero, List.getElem?_cons_succ]; rfl)
        case wnc6 => rfl
        case ync6 => (intro w hSw; (try dsimp only at hSw); go_simp; (try with_reducible rfl))
        (try simp only [Act.put, List.setIfInBounds_toArray, List.set_cons_zero, List.set_cons_succ])
        refine wpAnyH_take (i := 7) (oi := ?oc7) (v := ?vc7) ?hoc7 (by kernel_rfl) (by kernel_rfl) (by kernel_rfl) (fun _ _ _ h => h) (Or.inl ⟨?wnc7, ?ync7⟩) (by assumption) ?restc7
        case hoc7 => (simp only [List.getElem?_toArray, List.getElem?_cons_zero, List.getElem?_cons_succ]; rfl)
        case wnc7 => rfl
        case ync7 => (intro w hSw; (try dsimp only at hSw); go_simp; (try with_reducible rfl))
        (try simp only [Act.put, List.setIfInBounds_toArray, List.set_cons_zero, List.set_cons_succ])
        refine wpAnyH_take (i := 8) (oi := ?oc8) (v := ?vc8) ?hoc8 (by kernel_rfl) (by kernel_rfl) (by kernel_rfl) (fun _ _ _ h => h) (Or.inl ⟨?wnc8, ?ync8⟩) (by assumption) ?restc8
        case hoc8 => (simp only [List.getElem?_toArray, List.getElem?_cons_zero, List.getElem?_cons_succ]; rfl)
        case wnc8 => rfl
        case ync8 => (intro w hSw; (try dsimp only at hSw); go_simp; (try with_reducible rfl))
        (try simp only [Act.put, List.setIfInBounds_toArray, List.set_cons_zero, List.set_cons_succ])
        refine wpAnyH_take (i := 9) (oi := ?oc9) (v := ?vc9) ?hoc9 (by kernel_rfl) (by kernel_rfl) (by kernel_rfl) (fun _ _ _ h => h) (Or.inl ⟨?wnc9, ?ync9⟩) (by assumption) ?restc9
        case hoc9 => (simp only [List.getElem?_toArray, List.getElem?_cons_zero, List.getElem?_cons_succ]; rfl)
        case wnc9 => rfl
        case ync9 => (intro w hSw; (try dsimp only at hSw); go_simp; (try with_reducible rfl))
        (try simp only [Act.put, List.setIfInBounds_toArray, List.set_cons_zero, List.set_cons_succ])
        refine wpAnyH_take (i := 10) (oi := ?oc10) (v := ?vc10) ?hoc10 (by kernel_rfl) (by kernel_rfl) (by kernel_rfl) (fun _ _ _ h => h) (Or.inl ⟨?wnc10, ?ync10⟩) (by assumption) ?restc10
        case hoc10 => (simp only [List.getElem?_toArray, List.getElem?_cons_zero, List.getElem?_cons_succ]; rfl)
        case wnc10 => rfl
        case ync10 => (intro w hSw; (try dsimp only at hSw); go_simp; (try with_reducible rfl))
        (try simp only [Act.put, List.setIfInBounds_toArray, List.set_cons_zero, List.set_cons_succ])
        refine wpAnyH_take (i := 11) (oi := ?oc11) (v := ?vc11) ?hoc11 (by kernel_rfl) (by kernel_rfl) (by kernel_rfl) (fun _ _ _ h => h) (Or.inl ⟨?wnc11, ?ync11⟩) (by assumption) ?restc11
        case hoc11 => (simp only [List.getElem?_toArray, List.getElem?_cons_zero, List.getElem?_cons_succ]; rfl)
        case wnc11 => rfl
        case ync11 => (intro w hSw; (try dsimp only at hSw); go_simp; (try with_reducible rfl))
        (try simp only [Act.put, List.setIfInBounds_toArray, List.set_cons_zero, List.set_cons_succ])
        refine wpAnyH_take (i := 12) (oi := ?oc12) (v := ?vc12) ?hoc12 (by kernel_rfl) (by kernel_rfl) (by kernel_rfl) (fun _ _ _ h => h) (Or.inl ⟨?wnc12, ?ync12⟩) (by assumption) ?restc12
        case hoc12 => (simp only [List.getElem?_toArray, List.getElem?_cons_zero, List.getElem?_cons_succ]; rfl)
        case wnc12 => rfl
        case ync12 => (intro w hSw; (try dsimp only at hSw); go_simp; (try with_reducible rfl))
        (try simp only [Act.put, List.setIfInBounds_toArray, List.set_cons_zero, List.set_cons_succ])
        refine wpAnyH_take (i := 13) (oi := ?oc13) (v := ?vc13) ?hoc13 (by kernel_rfl) (by kernel_rfl) (by kernel_rfl) (fun _ _ _ h => h) (Or.inl ⟨?wnc13, ?ync13⟩) (by assumption) ?restc13
        case hoc13 => (simp only [List.getElem?_toArray, List.getElem?_cons_zero, List.getElem?_cons_succ]; rfl)
        case wnc13 => rfl
        case ync13 => (intro w hSw; (try dsimp only at hSw); go_simp; (try with_reducible rfl))
        (try simp only [Act.put, List.setIfInBounds_toArray, List.set_cons_zero, List.set_cons_succ])
        refine wpAnyH_take (i := 14) (oi := ?oc14) (v := ?vc14) ?hoc14 (by kernel_rfl) (by kernel_rfl) (by kernel_rfl) (fun _ _ _ h => h) (Or.inl ⟨?wnc14, ?ync14⟩) (by assumption) ?restc14
        case hoc14 => (simp only [List.getElem?_toArray, List.getElem?_cons_zero, List.getElem?_cons_succ]; rfl)
        case wnc14 => rfl
        case ync14 => (intro w hSw; (try dsimp only at hSw); go_simp; (try with_reducible rfl))
        (try simp only [Act.put, List.setIfInBounds_toArray, List.set_cons_zero, List.set_cons_succ])
        refine wpAnyH_take (i := 15) (oi := ?oc15) (v := ?vc15) ?hoc15 (by kernel_rfl) (by kernel_rfl) (by kernel_rfl) (fun _ _ _ h => h) (Or.inl ⟨?wnc15, ?ync15⟩) (by assumption) ?restc15
        case hoc15 => (simp only [List.getElem?_toArray, List.getElem?_cons_zero, List.getElem?_cons_succ]; rfl)
        case wnc15 => rfl
        case ync15 => (intro w hSw; (try dsimp only at hSw); go_simp; (try with_reducible rfl))
        (try simp only [Act.put, List.setIfInBounds_toArray, List.set_cons_zero, List.set_cons_succ])
        refine wpAnyH_take (i := 16) (oi := ?oc16) (v := ?vc16) ?hoc16 (by kernel_rfl) (by kernel_rfl) (by kernel_rfl) (fun _ _ _ h => h) (Or.inl ⟨?wnc16, ?ync16⟩) (by assumption) ?restc16
        case hoc16 => (simp only [List.getElem?_toArray, List.getElem?_cons_zero, List.getElem?_cons_succ]; rfl)
        case wnc16 => rfl
        case ync16 => (intro w hSw; (try dsimp only at hSw); go_simp; (try with_reducible rfl))
        (try simp only [Act.put, List.setIfInBounds_toArray, List.set_cons_zero, List.set_cons_succ])
        refine wpAnyH_take (i := 17) (oi := ?oc17) (v := ?vc17) ?hoc17 (by kernel_rfl) (by kernel_rfl) (by kernel_rfl) (fun _ _ _ h => h) (Or.inl ⟨?wnc17, ?ync17⟩) (by assumption) ?restc17
        case hoc17 => (simp only [List.getElem?_toArray, List.getElem?_cons_zero, List.getElem?_cons_succ]; rfl)
        case wnc17 => rfl
        case ync17 => (intro w hSw; (try dsimp only at hSw); go_simp; (try with_reducible rfl))
        (try simp only [Act.put, List.setIfInBounds_toArray, List.set_cons_zero, List.set_cons_succ])
        refine wpAnyH_take (i := 18) (oi := ?oc18) (v := ?vc18) ?hoc18 (by kernel_rfl) (by kernel_rfl) (by kernel_rfl) (fun _ _ _ h => h) (Or.inl ⟨?wnc18, ?ync18⟩) (by assumption) ?restc18
        case hoc18 => (simp only [List.getElem?_toArray, List.getElem?_cons_zero, List.getElem?_cons_succ]; rfl)
        case wnc18 => rfl
        case ync18 => (intro w hSw; (try dsimp only at hSw); go_simp; (try with_reducible rfl))
        (try simp only [Act.put, List.setIfInBounds_toArray, List.set_cons_zero, List.set_cons_succ])
        refine wpAnyH_take (i := 19) (oi := ?oc19) (v := ?vc19) ?hoc19 (by kernel_rfl) (by kernel_rfl) (by kernel_rfl) (fun _ _ _ h => h) (Or.inl ⟨?wnc19, ?ync19⟩) (by assumption) ?restc19
        case hoc19 => (simp only [List.getElem?_toArray, List.getElem?_cons_zero, List.getElem?_cons_succ]; rfl)
        case wnc19 => rfl
        case ync19 => (intro w hSw; (try dsimp only at hSw); go_simp; (try with_reducible rfl))
        (try simp only [Act.put, List.setIfInBounds_toArray, List.set_cons_zero, List.set_cons_succ])
        refine wpAnyH_take (i := 20) (oi := ?oc20) (v := ?vc20) ?hoc20 (by kernel_rfl) (by kernel_rfl) (by kernel_rfl) (fun _ _ _ h => h) (Or.inl ⟨?wnc20, ?ync20⟩) (by assumption) ?restc20
        case hoc20 => (simp only [List.getElem?_toArray, List.getElem?_cons_zero, List.getElem?_cons_succ]; rfl)
        case wnc20 => rfl
        case ync20 => (intro w hSw; (try dsimp only at hSw); go_simp; (try with_reducible rfl))
        (try simp only [Act.put, List.setIfInBounds_toArray, List.set_cons_zero, List.set_cons_succ])
        refine wpAnyH_take (i := 21) (oi := ?oc21) (v := ?vc21) ?hoc21 (by kernel_rfl) (by kernel_rfl) (by kernel_rfl) (fun _ _ _ h => h) (Or.inl ⟨?wnc21, ?ync21⟩) (by assumption) ?restc21
        case hoc21 => (simp only [List.getElem?_toArray, List.getElem?_cons_zero, List.getElem?_cons_succ]; rfl)
        case wnc21 => rfl
        case ync21 => (intro w hSw; (try dsimp only at hSw); go_simp; (try with_reducible rfl))
        (try simp only [Act.put, List.setIfInBounds_toArray, List.set_cons_zero, List.set_cons_succ])
        refine wpAnyH_take (i := 22) (oi := ?oc22) (v := ?vc22) ?hoc22 (by kernel_rfl) (by kernel_rfl) (by kernel_rfl) (fun _ _ _ h => h) (Or.inl ⟨?wnc22, ?ync22⟩) (by assumption) ?restc22
        case hoc22 => (simp only [List.getElem?_toArray, List.getElem?_cons_zero, List.getElem?_cons_succ]; rfl)
        case wnc22 => rfl
        case ync22 => (intro w hSw; (try dsimp only at hSw); go_simp; (try with_reducible rfl))
        (try simp only [Act.put, List.setIfInBounds_toArray, List.set_cons_zero, List.set_cons_succ])
        refine wpAnyH_take (i := 23) (oi := ?oc23) (v := ?vc23) ?hoc23 (by kernel_rfl) (by kernel_rfl) (by kernel_rfl) (fun _ _ _ h => h) (Or.inl ⟨?wnc23, ?ync23⟩) (by assumption) ?restc23
        case hoc23 => (simp only [List.getElem?_toArray, List.getElem?_cons_zero, List.getElem?_cons_succ]; rfl)
        case wnc23 => rfl
        case ync23 => (intro w hSw; (try dsimp only at hSw); go_simp; (try with_reducible rfl))
        (try simp only [Act.put, List.setIfInBounds_toArray, List.set_cons_zero, List.set_cons_succ])
        refine wpAnyH_take (i := 24) (oi := ?oc24) (v := ?vc24) ?hoc24 (by kernel_rfl) (by kernel_rfl) (by kernel_rfl) (fun _ _ _ h => h) (Or.inl ⟨?wnc24, ?ync24⟩) (by assumption) ?restc24
        case hoc24 => (simp only [List.getElem?_toArray, List.getElem?_cons_zero, List.getElem?_cons_succ]; rfl)
        case wnc24 => rfl
        case ync24 => (intro w hSw; (try dsimp only at hSw); go_simp; (try with_reducible rfl))
        (try simp only [Act.put, List.setIfInBounds_toArray, List.set_cons_zero, List.set_cons_succ])
        refine wpAnyH_take (i := 25) (oi := ?oc25) (v := ?vc25) ?hoc25 (by kernel_rfl) (by kernel_rfl) (by kernel_rfl) (fun _ _ _ h => h) (Or.inl ⟨?wnc25, ?ync25⟩) (by assumption) ?restc25
        case hoc25 => (simp only [List.getElem?_toArray, List.getElem?_cons_zero, List.getElem?_cons_succ]; rfl)
        case wnc25 => rfl
        case ync25 => (intro w hSw; (try dsimp only at hSw); go_simp; (try with_reducible rfl))
        (try simp only [Act.put, List.setIfInBounds_toArray, List.set_cons_zero, List.set_cons_succ])
        refine wpAnyH_take (i := 26) (oi := ?oc26) (v := ?vc26) ?hoc26 (by kernel_rfl) (by kernel_rfl) (by kernel_rfl) (fun _ _ _ h => h) (Or.inl ⟨?wnc26, ?ync26⟩) (by assumption) ?restc26
        case hoc26 => (simp only [List.getElem?_toArray, List.getElem?_cons_zero, List.getElem?_cons_succ]; rfl)
        case wnc26 => rfl
        case ync26 => (intro w hSw; (try dsimp only at hSw); go_simp; (try with_reducible rfl))
        (try simp only [Act.put, List.setIfInBounds_toArray, List.set_cons_zero, List.set_cons_succ])
        refine wpAnyH_take (i := 27) (oi := ?oc27) (v := ?vc27) ?hoc27 (by kernel_rfl) (by kernel_rfl) (by kernel_rfl) (fun _ _ _ h => h) (Or.inl ⟨?wnc27, ?ync27⟩) (by assumption) ?restc27
        case hoc27 => (simp only [List.getElem?_toArray, List.getElem?_cons_zero, List.getElem?_cons_succ]; rfl)
        case wnc27 => rfl
        case ync27 => (intro w hSw; (try dsimp only at hSw); go_simp; (try with_reducible rfl))
        (try simp only [Act.put, List.setIfInBounds_toArray, List.set_cons_zero, List.set_cons_succ])
        refine wpAnyH_take (i := 28) (oi := ?oc28) (v := ?vc28) ?hoc28 (by kernel_rfl) (by kernel_rfl) (by kernel_rfl) (fun _ _ _ h => h) (Or.inl ⟨?wnc28, ?ync28⟩) (by assumption) ?restc28
        case hoc28 => (simp only [List.getElem?_toArray, List.getElem?_cons_zero, List.getElem?_cons_succ]; rfl)
        case wnc28 => rfl
        case ync28 => (intro w hSw; (try dsimp only at hSw); go_simp; (try with_reducible rfl))
        (try simp only [Act.put, List.setIfInBounds_toArray, List.set_cons_zero, List.set_cons_succ])
        refine wpAnyH_take (i := 29) (oi := ?oc29) (v := ?vc29) ?hoc29 (by kernel_rfl) (by kernel_rfl) (by kernel_rfl) (fun _ _ _ h => h) (Or.inl ⟨?wnc29, ?ync29⟩) (by assumption) ?restc29
        case hoc29 => (simp only [List.getElem?_toArray, List.getElem?_cons_zero, List.getElem?_cons_succ]; rfl)
        case wnc29 => rfl
        case ync29 => (intro w hSw; (try dsimp only at hSw); go_simp; (try with_reducible rfl))
        (try simp only [Act.put, List.setIfInBounds_toArray, List.set_cons_zero, List.set_cons_succ])
        refine wpAnyH_take (i := 30) (oi := ?oc30) (v := ?vc30) ?hoc30 (by kernel_rfl) (by kernel_rfl) (by kernel_rfl) (fun _ _ _ h => h) (Or.inl ⟨?wnc30, ?ync30⟩) (by assumption) ?restc30
        case hoc30 => (simp only [List.getElem?_toArray, List.getElem?_cons_zero, List.getElem?_cons_succ]; rfl)
        case wnc30 => rfl
        case ync30 => (intro w hSw; (try dsimp only at hSw); go_simp; (try with_reducible rfl))
        (try simp only [Act.put, List.setIfInBounds_toArray, List.set_cons_zero, List.set_cons_succ])
        refine wpAnyH_take (i := 31) (oi := ?oc31) (v := ?vc31) ?hoc31 (by kernel_rfl) (by kernel_rfl) (by kernel_rfl) (fun _ _ _ h => h) (Or.inl ⟨?wnc31, ?ync31⟩) (by assumption) ?restc31
        case hoc31 => (simp only [List.getElem?_toArray, List.getElem?_cons_zero, List.getElem?_cons_succ]; rfl)
        case wnc31 => rfl
        case ync31 => (intro w hSw; (try dsimp only at hSw); go_simp; (try with_reducible rfl))
        (try simp only [Act.put, List.setIfInBounds_toArray, List.set_cons_zero, List.set_cons_succ])
        refine wpAnyH_take (i := 32) (oi := ?oc32) (v := ?vc32) ?hoc32 (by kernel_rfl) (by kernel_rfl) (by kernel_rfl) (fun _ _ _ h => h) (Or.inl ⟨?wnc32, ?ync32⟩) (by assumption) ?restc32
        case hoc32 => (simp only [List.getElem?_toArray, List.getElem?_cons_zero, List.getElem?_cons_succ]; rfl)
        case wnc32 => rfl
        case ync32 => (intro w hSw; (try dsimp only at hSw); go_simp; (try with_reducible rfl))
        (try simp only [Act.put, List.setIfInBounds_toArray, List.set_cons_zero, List.set_cons_succ])
        refine wpAnyH_take (i := 33) (oi := ?oc33) (v := ?vc33) ?hoc33 (by kernel_rfl) (by kernel_rfl) (by kernel_rfl) (fun _ _ _ h => h) (Or.inl ⟨?wnc33, ?ync33⟩) (by assumption) ?restc33
        case hoc33 => (simp only [List.getElem?_toArray, List.getElem?_cons_zero, List.getElem?_cons_succ]; rfl)
        case wnc33 => rfl
        case ync33 => (intro w hSw; (try dsimp only at hSw); go_simp; (try with_reducible rfl))
        (try simp only [Act.put, List.setIfInBounds_toArray, List.set_cons_zero, List.set_cons_succ])
        refine wpAnyH_take (i := 34) (oi := ?oc34) (v := ?vc34) ?hoc34 (by kernel_rfl) (by kernel_rfl) (by kernel_rfl) (fun _ _ _ h => h) (Or.inl ⟨?wnc34, ?ync34⟩) (by assumption) ?restc34
        case hoc34 => (simp only [List.getElem?_toArray, List.getElem?_cons_zero, List.getElem?_cons_succ]; rfl)
        case wnc34 => rfl
        case ync34 => (intro w hSw; (try dsimp only at hSw); go_simp; (try with_reducible rfl))
        (try simp only [Act.put, List.setIfInBounds_toArray, List.set_cons_zero, List.set_cons_succ])
        refine wpAnyH_ready (rs := [35]) (by kernel_rfl) (by simp) ?_
        refine AllReadyH.cons (o := ?oc35) ?hoc35 (fun K hK => ?restc35) AllReadyH.nil
        case hoc35 => (simp only [List.getElem?_toArray, List.getElem?_cons_zero, List.getElem?_cons_succ]; rfl)
        go_simp
        with_reducible refine (hc _ hBd).mono ?_
        rintro en w6 ⟨rfl, hb6⟩
        have hB6 : Below w.heap.size w w6 := hBd.trans (hb6.mono hBd.size)
        refine hK.out _ _ (SS _ hB6) (fun hHeld => ?_)
        clear hK K
        (try simp only [Act.put, List.setIfInBounds_toArray, List.set_cons_zero, List.set_cons_succ])
        refine wpAnyH_take (i := 36) (oi := ?oc36) (v := ?vc36) ?hoc36 (by kernel_rfl) (by kernel_rfl) (by kernel_rfl) (fun _ _ _ h => h) (Or.inl ⟨?wnc36, ?ync36⟩) (by assumption) ?restc36
        case hoc36 => (simp only [List.getElem?_toArray, List.getElem?_cons_zero, List.getElem?_cons_succ]; rfl)
        case wnc36 => rfl
        case ync36 => (intro w hSw; (try dsimp only at hSw); go_simp; (try with_reducible rfl))
        (try simp only [Act.put, List.setIfInBounds_toArray, List.set_cons_zero, List.set_cons_succ])
        refine wpAnyH_take (i := 37) (oi := ?oc37) (v := ?vc37) ?hoc37 (by kernel_rfl) (by kernel_rfl) (by kernel_rfl) (fun _ _ _ h => h) (Or.inl ⟨?wnc37, ?ync37⟩) (by assumption) ?restc37
        case hoc37 => (simp only [List.getElem?_toArray, List.getElem?_cons_zero, List.getElem?_cons_succ]; rfl)
        case wnc37 => rfl
        case ync37 => (intro w hSw; (try dsimp only at hSw); go_simp; (try with_reducible rfl))
        (try simp only [Act.put, List.setIfInBounds_toArray, List.set_cons_zero, List.set_cons_succ])
        refine wpAnyH_done (by kernel_rfl) ?_ _
        refine NoPanic.normal ?_
        go_wp2
        go_ret
        exact ⟨rfl, hB6⟩
      · have h0' := Lib.hid (hQ2.out rfl)
        clear hQ2 hQ3 gyes
        go_wp2_with fail
        refine wp_region_noPanic ?_
        refine wp_region_held_drew (S := fun w' => w'.cell? (ad.add (k * 14)) = some (.int .i64 ep) ∧ w'.cell? ⟨(ad.add (k * 14)).block, (ad.add (k * 14)).off + 1, none⟩ = some (.int .u8 why) ∧ w'.cell? ⟨(ad.add (k * 14)).block, (ad.add (k * 14)).off + 2, none⟩ = some (.bool ag0) ∧ w'.cell? ⟨(ad.add (k * 14)).block, (ad.add (k * 14)).off + 2 + 1, none⟩ = some (.slice aX0 an0 ac0) ∧ w'.cell? ⟨(ad.add (k * 14)).block, (ad.add (k * 14)).off + 2 + 2, none⟩ = some (.int .i64 ae0) ∧ w'.cell? ⟨(ad.add (k * 14)).block, (ad.add (k * 14)).off + 2 + 3, none⟩ = some (.bool ag1) ∧ w'.cell? ⟨(ad.add (k * 14)).block, (ad.add (k * 14)).off + 2 + 4, none⟩ = some (.slice aX1 an1 ac1) ∧ w'.cell? ⟨(ad.add (k * 14)).block, (ad.add (k * 14)).off + 2 + 5, none⟩ = some (.int .i64 ae1) ∧ w'.cell? ⟨(ad.add (k * 14)).block, (ad.add (k * 14)).off + 2 + 6, none⟩ = some (.bool ag2) ∧ w'.cell? ⟨(ad.add (k * 14)).block, (ad.add (k * 14)).off + 2 + 7, none⟩ = some (.slice aX2 an2 ac2) ∧ w'.cell? ⟨(ad.add (k * 14)).block, (ad.add (k * 14)).off + 2 + 8, none⟩ = some (.int .i64 ae2) ∧ w'.cell? ⟨(ad.add (k * 14)).block, (ad.add (k * 14)).off + 2 + 9, none⟩ = some (.bool ag3) ∧ w'.cell? ⟨(ad.add (k * 14)).block, (ad.add (k * 14)).off + 2 + 10, none⟩ = some (.slice aX3 an3 ac3) ∧ w'.cell? ⟨(ad.add (k * 14)).block, (ad.add (k * 14)).off + 2 + 11, none⟩ = some (.int .i64 ae3) ∧ w'.cell? (ad2.add (k * 14)) = some (.int .i64 ep2) ∧ w'.cell? ⟨(ad2.add (k * 14)).block, (ad2.add (k * 14)).off + 1, none⟩ = some (.int .u8 why2) ∧ w'.cell? ⟨(ad2.add (k * 14)).block, (ad2.add (k * 14)).off + 2, none⟩ = some (.bool bg0) ∧ w'.cell? ⟨(ad2.add (k * 14)).block, (ad2.add (k * 14)).off + 2 + 1, none⟩ = some (.slice bX0 bn0 bc0) ∧ w'.cell? ⟨(ad2.add (k * 14)).block, (ad2.add (k * 14)).off + 2 + 2, none⟩ = some (.int .i64 be0) ∧ w'.cell? ⟨(ad2.add (k * 14)).block, (ad2.add (k * 14)).off + 2 + 3, none⟩ = some (.bool bg1) ∧ w'.cell? ⟨(ad2.add (k * 14)).block, (ad2.add (k * 14)).off + 2 + 4, none⟩ = some (.slice bX1 bn1 bc1) ∧ w'.cell? ⟨(ad2.add (k * 14)).block, (ad2.add (k * 14)).off + 2 + 5, none⟩ = some (.int .i64 be1) ∧ w'.cell? ⟨(ad2.add (k * 14)).block, (ad2.add (k * 14)).off + 2 + 6, none⟩ = some (.bool bg2) ∧ w'.cell? ⟨(ad2.add (k * 14)).block, (ad2.add (k * 14)).off + 2 + 7, none⟩ = some (.slice bX2 bn2 bc2) ∧ w'.cell? ⟨(ad2.add (k * 14)).block, (ad2.add (k * 14)).off + 2 + 8, none⟩ = some (.int .i64 be2) ∧ w'.cell? ⟨(ad2.add (k * 14)).block, (ad2.add (k * 14)).off + 2 + 9, none⟩ = some (.bool bg3) ∧ w'.cell? ⟨(ad2.add (k * 14)).block, (ad2.add (k * 14)).off + 2 + 10, none⟩ = some (.slice bX3 bn3 bc3) ∧ w'.cell? ⟨(ad2.add (k * 14)).block, (ad2.add (k * 14)).off + 2 + 11, none⟩ = some (.int .i64 be3)) (by kernel_rfl) (SS _ hBd) (fun hHeld => ?_)
        refine wpAnyH_take (i := 0) (oi := ?od0) (v := ?vd0) ?hod0 (by kernel_rfl) (by kernel_rfl) (by kernel_rfl) (fun _ _ _ h => h) (Or.inl ⟨?wnd0, ?ynd0⟩) (by assumption) ?restd0
        case hod0 => (simp only [List.getElem?_toArray, List.getElem?_cons_zero, List.getElem?_cons_succ]; rfl)
        case wnd0 => rfl
        case ynd0 => (intro w hSw; (try dsimp only at hSw); go_simp; (try with_reducible rfl))
        (try simp only [Act.put, List.setIfInBounds_toArray, List.set_cons_zero, List.set_cons_succ])
        refine wpAnyH_take (i := 1) (oi := ?od1) (v := ?vd1) ?hod1 (by kernel_rfl) (by kernel_rfl) (by kernel_rfl) (fun _ _ _ h => h) (Or.inl ⟨?wnd1, ?ynd1⟩) (by assumption) ?restd1
        case hod1 => (simp only [List.getElem?_toArray, List.getElem?_cons_zero, List.getElem?_cons_succ]; rfl)
        case wnd1 => rfl
        case ynd1 => (intro w hSw; (try dsimp only at hSw); go_simp; (try with_reducible rfl))
        (try simp only [Act.put, List.setIfInBounds_toArray, List.set_cons_zero, List.set_cons_succ])
        refine wpAnyH_take (i := 2) (oi := ?od2) (v := ?vd2) ?hod2 (by kernel_rfl) (by kernel_rfl) (by kernel_rfl) (fun _ _ _ h => h) (Or.inl ⟨?wnd2, ?ynd2⟩) (by assumption) ?restd2
        case hod2 => (simp only [List.getElem?_toArray, List.getElem?_cons_zero, List.getElem?_cons_succ]; rfl)
        case wnd2 => rfl
        case ynd2 => (intro w hSw; (try dsimp only at hSw); go_simp; (try with_reducible rfl))
        (try simp only [Act.put, List.setIfInBounds_toArray, List.set_cons_zero, List.set_cons_succ])
        refine wpAnyH_take (i := 3) (oi := ?od3) (v := ?vd3) ?hod3 (by kernel_rfl) (by kernel_rfl) (by kernel_rfl) (fun _ _ _ h => h) (Or.inl ⟨?wnd3, ?ynd3⟩) (by assumption) ?restd3
        case hod3 => (simp only [List.getElem?_toArray, List.getElem?_cons_zero, List.getElem?_cons_succ]; rfl)
        case wnd3 => rfl
        case ynd3 => (intro w hSw; (try dsimp only at hSw); go_simp; (try with_reducible rfl))
        (try simp only [Act.put, List.setIfInBounds_toArray, List.set_cons_zero, List.set_cons_succ])
        refine wpAnyH_take (i := 4) (oi := ?od4) (v := ?vd4) ?hod4 (by kernel_rfl) (by kernel_rfl) (by kernel_rfl) (fun _ _ _ h => h) (Or.inl ⟨?wnd4, ?ynd4⟩) (by assumption) ?restd4
        case hod4 => (simp only [List.getElem?_toArray, List.getElem?_cons_zero, List.getElem?_cons_succ]; rfl)
        case wnd4 => rfl
        case ynd4 => (intro w hSw; (try dsimp only at hSw); go_simp; (try with_reducible rfl))
        (try simp only [Act.put, List.setIfInBounds_toArray, List.set_cons_zero, List.set_cons_succ])
        refine wpAnyH_take (i := 5) (oi := ?od5) (v := ?vd5) ?hod5 (by kernel_rfl) (by kernel_rfl) (by kernel_rfl) (fun _ _ _ h => h) (Or.inl ⟨?wnd5, ?ynd5⟩) (by assumption) ?restd5
        case hod5 => (simp only [List.getElem?_toArray, List.getElem?_cons_zero, List.getElem?_cons_succ]; rfl)
        case wnd5 => rfl
        case ynd5 => (intro w hSw; (try dsimp only at hSw); go_simp; (try with_reducible rfl))
        (try simp only [Act.put, List.setIfInBounds_toArray, List.set_cons_zero, List.set_cons_succ])
        refine wpAnyH_take (i := 6) (oi := ?od6) (v := ?vd6) ?hod6 (by kernel_rfl) (by kernel_rfl) (by kernel_rfl) (fun _ _ _ h => h) (Or.inl ⟨?wnd6, ?ynd6⟩) (by assumption) ?restd6
        case hod6 => (simp only [List.getElem?_toArray, List.getElem?_cons_zero, List.getElem?_cons_succ]; rfl)
        case wnd6 => rfl
        case ynd6 => (intro w hSw; (try dsimp only at hSw); go_simp; (try with_reducible rfl))
        (try simp only [Act.put, List.setIfInBounds_toArray, List.set_cons_zero, List.set_cons_succ])
        refine wpAnyH_take (i := 7) (oi := ?od7) (v := ?vd7) ?hod7 (by kernel_rfl) (by kernel_rfl) (by kernel_rfl) (fun _ _ _ h => h) (Or.inl ⟨?wnd7, ?ynd7⟩) (by assumption) ?restd7
        case hod7 => (simp only [List.getElem?_toArray, List.getElem?_cons_zero, List.getElem?_cons_succ]; rfl)
        case wnd7 => rfl
        case ynd7 => (intro w hSw; (try dsimp only at hSw); go_simp; (try with_reducible rfl))
        (try simp only [Act.put, List.setIfInBounds_toArray, List.set_cons_zero, List.set_cons_succ])
        refine wpAnyH_take (i := 8) (oi := ?od8) (v := ?vd8) ?hod8 (by kernel_rfl) (by kernel_rfl) (by kernel_rfl) (fun _ _ _ h => h) (Or.inl ⟨?wnd8, ?ynd8⟩) (by assumption) ?restd8
        case hod8 => (simp only [List.getElem?_toArray, List.getElem?_cons_zero, List.getElem?_cons_succ]; rfl)
        case wnd8 => rfl
        case ynd8 => (intro w hSw; (try dsimp only at hSw); go_simp; (try with_reducible rfl))
        (try simp only [Act.put, List.setIfInBounds_toArray, List.set_cons_zero, List.set_cons_succ])
        refine wpAnyH_take (i := 9) (oi := ?od9) (v := ?vd9) ?hod9 (by kernel_rfl) (by kernel_rfl) (by kernel_rfl) (fun _ _ _ h => h) (Or.inl ⟨?wnd9, ?ynd9⟩) (by assumption) ?restd9
        case hod9 => (simp only [List.getElem?_toArray, List.getElem?_cons_zero, List.getElem?_cons_succ]; rfl)
        case wnd9 => rfl
        case ynd9 => (intro w hSw; (try dsimp only at hSw); go_simp; (try with_reducible rfl))
        (try simp only [Act.put, List.setIfInBounds_toArray, List.set_cons_zero, List.set_cons_succ])
        refine wpAnyH_take (i := 10) (oi := ?od10) (v := ?vd10) ?hod10 (by kernel_rfl) (by kernel_rfl) (by kernel_rfl) (fun _ _ _ h => h) (Or.inl ⟨?wnd10, ?ynd10⟩) (by assumption) ?restd10
        case hod10 => (simp only [List.getElem?_toArray, List.getElem?_cons_zero, List.getElem?_cons_succ]; rfl)
        case wnd10 => rfl
        case ynd10 => (intro w hSw; (try dsimp only at hSw); go_simp; (try with_reducible rfl))
        (try simp only [Act.put, List.setIfInBounds_toArray, List.set_cons_zero, List.set_cons_succ])
        refine wpAnyH_take (i := 11) (oi := ?od11) (v := ?vd11) ?hod11 (by kernel_rfl) (by kernel_rfl) (by kernel_rfl) (fun _ _ _ h => h) (Or.inl ⟨?wnd11, ?ynd11⟩) (by assumption) ?restd11
        case hod11 => (simp only [List.getElem?_toArray, List.getElem?_cons_zero, List.getElem?_cons_succ]; rfl)
        case wnd11 => rfl
        case ynd11 => (intro w hSw; (try dsimp only at hSw); go_simp; (try with_reducible rfl))
        (try simp only [Act.put, List.setIfInBounds_toArray, List.set_cons_zero, List.set_cons_succ])
        refine wpAnyH_take (i := 12) (oi := ?od12) (v := ?vd12) ?hod12 (by kernel_rfl) (by kernel_rfl) (by kernel_rfl) (fun _ _ _ h => h) (Or.inl ⟨?wnd12, ?ynd12⟩) (by assumption) ?restd12
        case hod12 => (simp only [List.getElem?_toArray, List.getElem?_cons_zero, List.getElem?_cons_succ]; rfl)
        case wnd12 => rfl
        case ynd12 => (intro w hSw; (try dsimp only at hSw); go_simp; (try with_reducible rfl))
        (try simp only [Act.put, List.setIfInBounds_toArray, List.set_cons_zero, List.set_cons_succ])
        refine wpAnyH_take (i := 13) (oi := ?od13) (v := ?vd13) ?hod13 (by kernel_rfl) (by kernel_rfl) (by kernel_rfl) (fun _ _ _ h => h) (Or.inl ⟨?wnd13, ?ynd13⟩) (by assumption) ?restd13
        case hod13 => (simp only [List.getElem?_toArray, List.getElem?_cons_zero, List.getElem?_cons_succ]; rfl)
        case wnd13 => rfl
        case ynd13 => (intro w hSw; (try dsimp only at hSw); go_simp; (try with_reducible rfl))
        (try simp only [Act.put, List.setIfInBounds_toArray, List.set_cons_zero, List.set_cons_succ])
        refine wpAnyH_take (i := 14) (oi := ?od14) (v := ?vd14) ?hod14 (by kernel_rfl) (by kernel_rfl) (by kernel_rfl) (fun _ _ _ h => h) (Or.inl ⟨?wnd14, ?ynd14⟩) (by assumption) ?restd14
        case hod14 => (simp only [List.getElem?_toArray, List.getElem?_cons_zero, List.getElem?_cons_succ]; rfl)
        case wnd14 => rfl
        case ynd14 => (intro w hSw; (try dsimp only at hSw); go_simp; (try with_reducible rfl))
        (try simp only [Act.put, List.setIfInBounds_toArray, List.set_cons_zero, List.set_cons_succ])
        refine wpAnyH_take (i := 15) (oi := ?od15) (v := ?vd15) ?hod15 (by kernel_rfl) (by kernel_rfl) (by kernel_rfl) (fun _ _ _ h => h) (Or.inl ⟨?wnd15, ?ynd15⟩) (by assumption) ?restd15
        case hod15 => (simp only [List.getElem?_toArray, List.getElem?_cons_zero, List.getElem?_cons_succ]; rfl)
        case wnd15 => rfl
        case ynd15 => (intro w hSw; (try dsimp only at hSw); go_simp; (try with_reducible rfl))
        (try simp only [Act.put, List.setIfInBounds_toArray, List.set_cons_zero, List.set_cons_succ])
        refine wpAnyH_take (i := 16) (oi := ?od16) (v := ?vd16) ?hod16 (by kernel_rfl) (by kernel_rfl) (by kernel_rfl) (fun _ _ _ h => h) (Or.inl ⟨?wnd16, ?ynd16⟩) (by assumption) ?restd16
        case hod16 => (simp only [List.getElem?_toArray, List.getElem?_cons_zero, List.getElem?_cons_succ]; rfl)
        case wnd16 => rfl
        case ynd16 => (intro w hSw; (try dsimp only at hSw); go_simp; (try with_reducible rfl))
        (try simp only [Act.put, List.setIfInBounds_toArray, List.set_cons_zero, List.set_cons_succ])
        refine wpAnyH_take (i := 17) (oi := ?od17) (v := ?vd17) ?hod17 (by kernel_rfl) (by kernel_rfl) (by kernel_rfl) (fun _ _ _ h => h) (Or.inl ⟨?wnd17, ?ynd17⟩) (by assumption) ?restd17
        case hod17 => (simp only [List.getElem?_toArray, List.getElem?_cons_zero, List.getElem?_cons_succ]; rfl)
        case wnd17 => rfl
        case ynd17 => (intro w hSw; (try dsimp only at hSw); go_simp; (try with_reducible rfl))
        (try simp only [Act.put, List.setIfInBounds_toArray, List.set_cons_zero, List.set_cons_succ])
        refine wpAnyH_take (i := 18) (oi := ?od18) (v := ?vd18) ?hod18 (by kernel_rfl) (by kernel_rfl) (by kernel_rfl) (fun _ _ _ h => h) (Or.inl ⟨?wnd18, ?ynd18⟩) (by assumption) ?restd18
        case hod18 => (simp only [List.getElem?_toArray, List.getElem?_cons_zero, List.getElem?_cons_succ]; rfl)
        case wnd18 => rfl
        case ynd18 => (intro w hSw; (try dsimp only at hSw); go_simp; (try with_reducible rfl))
        (try simp only [Act.put, List.setIfInBounds_toArray, List.set_cons_zero, List.set_cons_succ])
        refine wpAnyH_take (i := 19) (oi := ?od19) (v := ?vd19) ?hod19 (by kernel_rfl) (by kernel_rfl) (by kernel_rfl) (fun _ _ _ h => h) (Or.inl ⟨?wnd19, ?ynd19⟩) (by assumption) ?restd19
        case hod19 => (simp only [List.getElem?_toArray, List.getElem?_cons_zero, List.getElem?_cons_succ]; rfl)
        case wnd19 => rfl
        case ynd19 => (intro w hSw; (try dsimp only at hSw); go_simp; (try with_reducible rfl))
        (try simp only [Act.put, List.setIfInBounds_toArray, List.set_cons_zero, List.set_cons_succ])
        refine wpAnyH_take (i := 20) (oi := ?od20) (v := ?vd20) ?hod20 (by kernel_rfl) (by kernel_rfl) (by kernel_rfl) (fun _ _ _ h => h) (Or.inl ⟨?wnd20, ?ynd20⟩) (by assumption) ?restd20
        case hod20 => (simp only [List.getElem?_toArray, List.getElem?_cons_zero, List.getElem?_cons_succ]; rfl)
        case wnd20 => rfl
        case ynd20 => (intro w hSw; (try dsimp only at hSw); go_simp; (try with_reducible rfl))
        (try simp only [Act.put, List.setIfInBounds_toArray, List.set_cons_zero, List.set_cons_succ])
        refine wpAnyH_take (i := 21) (oi := ?od21) (v := ?vd21) ?hod21 (by kernel_rfl) (by kernel_rfl) (by kernel_rfl) (fun _ _ _ h => h) (Or.inl ⟨?wnd21, ?ynd21⟩) (by assumption) ?restd21
        case hod21 => (simp only [List.getElem?_toArray, List.getElem?_cons_zero, List.getElem?_cons_succ]; rfl)
        case wnd21 => rfl
        case ynd21 => (intro w hSw; (try dsimp only at hSw); go_simp; (try with_reducible rfl))
        (try simp only [Act.put, List.setIfInBounds_toArray, List.set_cons_zero, List.set_cons_succ])
        refine wpAnyH_take (i := 22) (oi := ?od22) (v := ?vd22) ?hod22 (by kernel_rfl) (by kernel_rfl) (by kernel_rfl) (fun _ _ _ h => h) (Or.inl ⟨?wnd22, ?ynd22⟩) (by assumption) ?restd22
        case hod22 => (simp only [List.getElem?_toArray, List.getElem?_cons_zero, List.getElem?_cons_succ]; rfl)
        case wnd22 => rfl
        case ynd22 => (intro w hSw; (try dsimp only at hSw); go_simp; (try with_reducible rfl))
        (try simp only [Act.put, List.setIfInBounds_toArray, List.set_cons_zero, List.set_cons_succ])
        refine wpAnyH_take (i := 23) (oi := ?od23) (v := ?vd23) ?hod23 (by kernel_rfl) (by kernel_rfl) (by kernel_rfl) (fun _ _ _ h => h) (Or.inl ⟨?wnd23, ?ynd23⟩) (by assumption) ?restd23
        case hod23 => (simp only [List.getElem?_toArray, List.getElem?_cons_zero, List.getElem?_cons_succ]; rfl)
        case wnd23 => rfl
        case ynd23 => (intro w hSw; (try dsimp only at hSw); go_simp; (try with_reducible rfl))
        (try simp only [Act.put, List.setIfInBounds_toArray, List.set_cons_zero, List.set_cons_succ])
        refine wpAnyH_take (i := 24) (oi := ?od24) (v := ?vd24) ?hod24 (by kernel_rfl) (by kernel_rfl) (by kernel_rfl) (fun _ _ _ h => h) (Or.inl ⟨?wnd24, ?ynd24⟩) (by assumption) ?restd24
        case hod24 => (simp only [List.getElem?_toArray, List.getElem?_cons_zero, List.getElem?_cons_succ]; rfl)
        case wnd24 => rfl
        case ynd24 => (intro w hSw; (try dsimp only at hSw); go_simp; (try with_reducible rfl))
        (try simp only [Act.put, List.setIfInBounds_toArray, List.set_cons_zero, List.set_cons_succ])
        refine wpAnyH_take (i := 25) (oi := ?od25) (v := ?vd25) ?hod25 (by kernel_rfl) (by kernel_rfl) (by kernel_rfl) (fun _ _ _ h => h) (Or.inl ⟨?wnd25, ?ynd25⟩) (by assumption) ?restd25
        case hod25 => (simp only [List.getElem?_toArray, List.getElem?_cons_zero, List.getElem?_cons_succ]; rfl)
        case wnd25 => rfl
        case ynd25 => (intro w hSw; (try dsimp only at hSw); go_simp; (try with_reducible rfl))
        (try simp only [Act.put, List.setIfInBounds_toArray, List.set_cons_zero, List.set_cons_succ])
        refine wpAnyH_take (i := 26) (oi := ?od26) (v := ?vd26) ?hod26 (by kernel_rfl) (by kernel_rfl) (by kernel_rfl) (fun _ _ _ h => h) (Or.inl ⟨?wnd26, ?ynd26⟩) (by assumption) ?restd26
        case hod26 => (simp only [List.getElem?_toArray, List.getElem?_cons_zero, List.getElem?_cons_succ]; rfl)
        case wnd26 => rfl
        case ynd26 => (intro w hSw; (try dsimp only at hSw); go_simp; (try with_reducible rfl))
        (try simp only [Act.put, List.setIfInBounds_toArray, List.set_cons_zero, List.set_cons_succ])
        refine wpAnyH_take (i := 27) (oi := ?od27) (v := ?vd27) ?hod27 (by kernel_rfl) (by kernel_rfl) (by kernel_rfl) (fun _ _ _ h => h) (Or.inl ⟨?wnd27, ?ynd27⟩) (by assumption) ?restd27
        case hod27 => (simp only [List.getElem?_toArray, List.getElem?_cons_zero, List.getElem?_cons_succ]; rfl)
        case wnd27 => rfl
        case ynd27 => (intro w hSw; (try dsimp only at hSw); go_simp; (try with_reducible rfl))
        (try simp only [Act.put, List.setIfInBounds_toArray, List.set_cons_zero, List.set_cons_succ])
        refine wpAnyH_take (i := 28) (oi := ?od28) (v := ?vd28) ?hod28 (by kernel_rfl) (by kernel_rfl) (by kernel_rfl) (fun _ _ _ h => h) (Or.inl ⟨?wnd28, ?ynd28⟩) (by assumption) ?restd28
        case hod28 => (simp only [List.getElem?_toArray, List.getElem?_cons_zero, List.getElem?_cons_succ]; rfl)
        case wnd28 => rfl
        case ynd28 => (intro w hSw; (try dsimp only at hSw); go_simp; (try with_reducible rfl))
        (try simp only [Act.put, List.setIfInBounds_toArray, List.set_cons_zero, List.set_cons_succ])
        refine wpAnyH_take (i := 29) (oi := ?od29) (v := ?vd29) ?hod29 (by kernel_rfl) (by kernel_rfl) (by kernel_rfl) (fun _ _ _ h => h) (Or.inl ⟨?wnd29, ?ynd29⟩) (by assumption) ?restd29
        case hod29 => (simp only [List.getElem?_toArray, List.getElem?_cons_zero, List.getElem?_cons_succ]; rfl)
        case wnd29 => rfl
        case ynd29 => (intro w hSw; (try dsimp only at hSw); go_simp; (try with_reducible rfl))
        (try simp only [Act.put, List.setIfInBounds_toArray, List.set_cons_zero, List.set_cons_succ])
        refine wpAnyH_take (i := 30) (oi := ?od30) (v := ?vd30) ?hod30 (by kernel_rfl) (by kernel_rfl) (by kernel_rfl) (fun _ _ _ h => h) (Or.inl ⟨?wnd30, ?ynd30⟩) (by assumption) ?restd30
        case hod30 => (simp only [List.getElem?_toArray, List.getElem?_cons_zero, List.getElem?_cons_succ]; rfl)
        case wnd30 => rfl
        case ynd30 => (intro w hSw; (try dsimp only at hSw); go_simp; (try with_reducible rfl))
        (try simp only [Act.put, List.setIfInBounds_toArray, List.set_cons_zero, List.set_cons_succ])
        refine wpAnyH_take (i := 31) (oi := ?od31) (v := ?vd31) ?hod31 (by kernel_rfl) (by kernel_rfl) (by kernel_rfl) (fun _ _ _ h => h) (Or.inl ⟨?wnd31, ?ynd31⟩) (by assumption) ?restd31
        case hod31 => (simp only [List.getElem?_toArray, List.getElem?_cons_zero, List.getElem?_cons_succ]; rfl)
        case wnd31 => rfl
        case ynd31 => (intro w hSw; (try dsimp only at hSw); go_simp; (try with_reducible rfl))
        (try simp only [Act.put, List.setIfInBounds_toArray, List.set_cons_zero, List.set_cons_succ])
        refine wpAnyH_take (i := 32) (oi := ?od32) (v := ?vd32) ?hod32 (by kernel_rfl) (by kernel_rfl) (by kernel_rfl) (fun _ _ _ h => h) (Or.inl ⟨?wnd32, ?ynd32⟩) (by assumption) ?restd32
        case hod32 => (simp only [List.getElem?_toArray, List.getElem?_cons_zero, List.getElem?_cons_succ]; rfl)
        case wnd32 => rfl
        case ynd32 => (intro w hSw; (try dsimp only at hSw); go_simp; (try with_reducible rfl))
        (try simp only [Act.put, List.setIfInBounds_toArray, List.set_cons_zero, List.set_cons_succ])
        refine wpAnyH_take (i := 33) (oi := ?od33) (v := ?vd33) ?hod33 (by kernel_rfl) (by kernel_rfl) (by kernel_rfl) (fun _ _ _ h => h) (Or.inl ⟨?wnd33, ?ynd33⟩) (by assumption) ?restd33
        case hod33 => (simp only [List.getElem?_toArray, List.getElem?_cons_zero, List.getElem?_cons_succ]; rfl)
        case wnd33 => rfl
        case ynd33 => (intro w hSw; (try dsimp only at hSw); go_simp; (try with_reducible rfl))
        (try simp only [Act.put, List.setIfInBounds_toArray, List.set_cons_zero, List.set_cons_succ])
        refine wpAnyH_take (i := 34) (oi := ?od34) (v := ?vd34) ?hod34 (by kernel_rfl) (by kernel_rfl) (by kernel_rfl) (fun _ _ _ h => h) (Or.inl ⟨?wnd34, ?ynd34⟩) (by assumption) ?restd34
        case hod34 => (simp only [List.getElem?_toArray, List.getElem?_cons_zero, List.getElem?_cons_succ]; rfl)
        case wnd34 => rfl
        case ynd34 => (intro w hSw; (try dsimp only at hSw); go_simp; (try with_reducible rfl))
        (try simp only [Act.put, List.setIfInBounds_toArray, List.set_cons_zero, List.set_cons_succ])
        refine wpAnyH_ready (rs := [35]) (by kernel_rfl) (by simp) ?_
        refine AllReadyH.cons (o := ?od35) ?hod35 (fun K hK => ?restd35) AllReadyH.nil
        case hod35 => (simp only [List.getElem?_toArray, List.getElem?_cons_zero, List.getElem?_cons_succ]; rfl)
        go_simp
        with_reducible refine (hc _ hBd).mono ?_
        rintro en w6 ⟨rfl, hb6⟩
        have hB6 : Below w.heap.size w w6 := hBd.trans (hb6.mono hBd.size)
        refine hK.out _ _ (SS _ hB6) (fun hHeld => ?_)
        clear hK K
        (try simp only [Act.put, List.setIfInBounds_toArray, List.set_cons_zero, List.set_cons_succ])
        refine wpAnyH_take (i := 36) (oi := ?od36) (v := ?vd36) ?hod36 (by kernel_rfl) (by kernel_rfl) (by kernel_rfl) (fun _ _ _ h => h) (Or.inl ⟨?wnd36, ?ynd36⟩) (by assumption) ?restd36
        case hod36 => (simp only [List.getElem?_toArray, List.getElem?_cons_zero, List.getElem?_cons_succ]; rfl)
        case wnd36 => rfl
        case ynd36 => (intro w hSw; (try dsimp only at hSw); go_simp; (try with_reducible rfl))
        (try simp only [Act.put, List.setIfInBounds_toArray, List.set_cons_zero, List.set_cons_succ])
        refine wpAnyH_take (i := 37) (oi := ?od37) (v := ?vd37) ?hod37 (by kernel_rfl) (by kernel_rfl) (by kernel_rfl) (fun _ _ _ h => h) (Or.inl ⟨?wnd37, ?ynd37⟩) (by assumption) ?restd37
        case hod37 => (simp only [List.getElem?_toArray, List.getElem?_cons_zero, List.getElem?_cons_succ]; rfl)
        case wnd37 => rfl
        case ynd37 => (intro w hSw; (try dsimp only at hSw); go_simp; (try with_reducible rfl))
        (try simp only [Act.put, List.setIfInBounds_toArray, List.set_cons_zero, List.set_cons_succ])
        refine wpAnyH_done (by kernel_rfl) ?_ _
        refine NoPanic.normal ?_
        go_wp2
        go_roundw
        case rel => exact ⟨k + 1, by omega, by go_num, h0', hB6⟩
        case measure => simp [intOf] <;> omega
    · obtain rfl : k = n := by omega
      obtain rfl := gyes.out h0.out
      clear h0 h1 h2 hs1 hs2 gno gyes hB0
      go_wp2
      go_ret
      exact ⟨rfl, hB⟩
end Go.Proofs.YtmppalgecboeeaaDoor
