/- Mail: the content of a mail: kind 5 | Mail: the content of a mail: kind 6 -/
import Derived.IntWalk
import Derived.Test.YtjmhefkmpfkpbaaZPL
namespace Go.Proofs.Ytjmhefkmpfkpbaa
open Go.ChangeShapes Go.WideShapes Go.ChangeAt Go.RowKit
set_option linter.unusedSimpArgs false
set_option linter.unusedVariables false
theorem dsP_total : ∀ l : List Tm, total (dsP l) = 5 * l.length
  | [] => rfl
  | x :: r => by
    have := dsP_total r
    rw [show dsP (x :: r) = (x.1.toNat, 1) :: (x.2.toNat, 4) :: dsP r from rfl, total, total, this, List.length_cons]; omega
theorem dsP_snoc {l : List Tm} {k : Nat} (h : k < l.length) : dsP (l.take (k + 1)) = dsP (l.take k) ++ [((tz l k).1.toNat, 1), ((tz l k).2.toNat, 4)] := by
  have e := tz_lt h
  have : l.take (k + 1) = l.take k ++ [tz l k] := by rw [List.take_add_one, e]; rfl
  rw [this, dsP, dsP, List.flatMap_append]; rfl
theorem lsP_total : ∀ l : List Nat, total (lsP l) = 4 * l.length
  | [] => rfl
  | x :: r => by
    have := lsP_total r
    rw [show lsP (x :: r) = (x, 4) :: lsP r from rfl, total, this, List.length_cons]; omega
theorem lsP_snoc {l : List Nat} {k : Nat} (h : k < l.length) : lsP (l.take (k + 1)) = lsP (l.take k) ++ [(l.getD k 0, 4)] := by
  have : l.take (k + 1) = l.take k ++ [l.getD k 0] := by rw [List.take_succ_eq_append_getElem h, List.getD_eq_getElem?_getD, List.getElem?_eq_getElem h]; rfl
  rw [this, lsP, lsP, List.map_append]; rfl
set_option maxRecDepth 100000 in
set_option maxHeartbeats 16000000 in
theorem con5 {afr att aep anu aab : Int} {ag0 : Bool} {aX0 : Option Addr} {an0 ac0 : Nat} {ae0 : Int} {ag1 : Bool} {aX1 : Option Addr} {an1 ac1 : Nat} {ae1 : Int} {ag2 : Bool} {aX2 : Option Addr} {an2 ac2 : Nat} {ae2 : Int} {ag3 : Bool} {aX3 : Option Addr} {an3 ac3 : Nat} {ae3 : Int} {awa : Bool} {aD : Option Addr} {adn adc : Nat} {aeh : Bool} {ax1 ax2 : Int} {aL : Option Addr} {aln alc : Nat} (w : World) (hfr : 0 ≤ afr ∧ afr < 8) (htt : 0 ≤ att ∧ att < 8) (hep : 0 ≤ aep ∧ aep ≤ 65535) (hnu : 0 ≤ anu ∧ anu ≤ 1048575) (l : List Tm) (hn : adn ≤ 64) (hr : Tms w w.heap.size aD adn l) (hm : ∀ k, k < adn → mayT (tz l k) = true) : Calls Try.prog 26 #[.agg #[.int .u8 5, .int .i64 afr, .int .i64 att, .int .i64 aep, .int .i64 anu, .int .i64 aab, .bool ag0, .slice aX0 an0 ac0, .int .i64 ae0, .bool ag1, .slice aX1 an1 ac1, .int .i64 ae1, .bool ag2, .slice aX2 an2 ac2, .int .i64 ae2, .bool ag3, .slice aX3 an3 ac3, .int .i64 ae3, .bool awa, .slice aD adn adc, .bool aeh, .int .i64 ax1, .int .i64 ax2, .slice aL aln alc]] w fun en w' => ∃ X c, en = .returned (.slice X (total ([] ++ [((afr).toNat, 1)] ++ [((att).toNat, 1)] ++ [((aep).toNat, 2)] ++ [((anu).toNat, 3)] ++ [(bP awa, 1)] ++ [(adn, 1)] ++ dsP l)) c) ∧ w'.ownsRow w.heap.size 5 1 (.slice X (total ([] ++ [((afr).toNat, 1)] ++ [((att).toNat, 1)] ++ [((aep).toNat, 2)] ++ [((anu).toNat, 3)] ++ [(bP awa, 1)] ++ [(adn, 1)] ++ dsP l)) c) (total ([] ++ [((afr).toNat, 1)] ++ [((att).toNat, 1)] ++ [((aep).toNat, 2)] ++ [((anu).toNat, 3)] ++ [(bP awa, 1)] ++ [(adn, 1)] ++ dsP l)) (u8s (flat ([] ++ [((afr).toNat, 1)] ++ [((att).toNat, 1)] ++ [((aep).toNat, 2)] ++ [((anu).toNat, 3)] ++ [(bP awa, 1)] ++ [(adn, 1)] ++ dsP l))) ∧ Below w.heap.size w w' := by
  obtain ⟨V, hV⟩ : ∃ V, V = (w.alloc (.cells #[.int .u8 5, .int .i64 afr, .int .i64 att, .int .i64 aep, .int .i64 anu, .int .i64 aab, .bool ag0, .slice aX0 an0 ac0, .int .i64 ae0, .bool ag1, .slice aX1 an1 ac1, .int .i64 ae1, .bool ag2, .slice aX2 an2 ac2, .int .i64 ae2, .bool ag3, .slice aX3 an3 ac3, .int .i64 ae3, .bool awa, .slice aD adn adc, .bool aeh, .int .i64 ax1, .int .i64 ax2, .slice aL aln alc] 31)).alloc (.cells #[.slice none 0 0] 92) := ⟨_, rfl⟩
  have hB : Below w.heap.size w V := by rw [hV]; exact ((Below.refl _ _).alloc (Nat.le_refl _) _).alloc (by simp) _
  have ka : Hid (Blk V w.heap.size 31 #[.int .u8 5, .int .i64 afr, .int .i64 att, .int .i64 aep, .int .i64 anu, .int .i64 aab, .bool ag0, .slice aX0 an0 ac0, .int .i64 ae0, .bool ag1, .slice aX1 an1 ac1, .int .i64 ae1, .bool ag2, .slice aX2 an2 ac2, .int .i64 ae2, .bool ag3, .slice aX3 an3 ac3, .int .i64 ae3, .bool awa, .slice aD adn adc, .bool aeh, .int .i64 ax1, .int .i64 ax2, .slice aL aln alc]) := Lib.hid (by rw [hV]; exact (Blk.new w _ _).alloc _)
  have hT : Hid (Txt V (w.heap.size + 1) []) := Lib.hid (by rw [hV]; simpa using Txt.new_ (w.alloc (.cells #[.int .u8 5, .int .i64 afr, .int .i64 att, .int .i64 aep, .int .i64 anu, .int .i64 aab, .bool ag0, .slice aX0 an0 ac0, .int .i64 ae0, .bool ag1, .slice aX1 an1 ac1, .int .i64 ae1, .bool ag2, .slice aX2 an2 ac2, .int .i64 ae2, .bool ag3, .slice aX3 an3 ac3, .int .i64 ae3, .bool awa, .slice aD adn adc, .bool aeh, .int .i64 ax1, .int .i64 ax2, .slice aL aln alc] 31)))
  have hO : Hid (Only (w.heap.size + 1) V V) := Lib.hid (Only.refl _ _)
  have hVs : V.heap.size = w.heap.size + 2 := by rw [hV]; simp
  have hln := hr.1
  go_enter Try.func26, Try.ntmps26
  go_upto_region 3 with (fail)
  rw [← hV]
  clear hV
  have a1 : V.cell? ⟨w.heap.size, 1, none⟩ = some (.int .i64 afr) := by rw [ka.out.cell]; rfl
  go_wp2_with fail
  refine (tnumI (w.heap.size + 1) ([]) 1 (afr) 1 (by omega) (by omega) (by omega) (by omega) rfl (by simp [total, total_app, ptD_total]) V hT.out).mono ?_
  rintro en w1 ⟨rfl, hT1, hO1⟩
  replace ka := Lib.hid (hO1.blk ka.out (by omega))
  replace hT := Lib.hid hT1
  replace hO := Lib.hid (hO.out.trans hO1)
  have sw1 := hO1.size
  clear a1
  clear hT1 hO1
  have a2 : w1.cell? ⟨w.heap.size, 2, none⟩ = some (.int .i64 att) := by rw [ka.out.cell]; rfl
  go_wp2_with fail
  refine (tnumI (w.heap.size + 1) ([] ++ [((afr).toNat, 1)]) 1 (att) 1 (by omega) (by omega) (by omega) (by omega) rfl (by simp [total, total_app, ptD_total]) w1 hT.out).mono ?_
  rintro en w2 ⟨rfl, hT1, hO1⟩
  replace ka := Lib.hid (hO1.blk ka.out (by omega))
  replace hT := Lib.hid hT1
  replace hO := Lib.hid (hO.out.trans hO1)
  have sw2 := hO1.size
  clear a2
  clear hT1 hO1
  have a3 : w2.cell? ⟨w.heap.size, 3, none⟩ = some (.int .i64 aep) := by rw [ka.out.cell]; rfl
  go_wp2_with fail
  refine (tnumI (w.heap.size + 1) ([] ++ [((afr).toNat, 1)] ++ [((att).toNat, 1)]) 2 (aep) 2 (by omega) (by omega) (by omega) (by omega) rfl (by simp [total, total_app, ptD_total]) w2 hT.out).mono ?_
  rintro en w3 ⟨rfl, hT1, hO1⟩
  replace ka := Lib.hid (hO1.blk ka.out (by omega))
  replace hT := Lib.hid hT1
  replace hO := Lib.hid (hO.out.trans hO1)
  have sw3 := hO1.size
  clear a3
  clear hT1 hO1
  have a4 : w3.cell? ⟨w.heap.size, 4, none⟩ = some (.int .i64 anu) := by rw [ka.out.cell]; rfl
  go_wp2_with fail
  refine (tnumI (w.heap.size + 1) ([] ++ [((afr).toNat, 1)] ++ [((att).toNat, 1)] ++ [((aep).toNat, 2)]) 3 (anu) 3 (by omega) (by omega) (by omega) (by omega) rfl (by simp [total, total_app, ptD_total]) w3 hT.out).mono ?_
  rintro en w4 ⟨rfl, hT1, hO1⟩
  replace ka := Lib.hid (hO1.blk ka.out (by omega))
  replace hT := Lib.hid hT1
  replace hO := Lib.hid (hO.out.trans hO1)
  have sw4 := hO1.size
  clear a4
  clear hT1 hO1
  have a0 : w4.cell? ⟨w.heap.size, 0, none⟩ = some (.int .u8 5) := by rw [ka.out.cell]; rfl
  have a18 : w4.cell? ⟨w.heap.size, 18, none⟩ = some (.bool awa) := by rw [ka.out.cell]; rfl
  go_wp2_with fail
  refine (tflag (w.heap.size + 1) ([] ++ [((afr).toNat, 1)] ++ [((att).toNat, 1)] ++ [((aep).toNat, 2)] ++ [((anu).toNat, 3)]) awa (by simp [total, total_app]) w4 hT.out).mono ?_
  rintro en w5 ⟨rfl, hT1, hO1⟩
  replace ka := Lib.hid (hO1.blk ka.out (by omega))
  replace hT := Lib.hid hT1
  replace hO := Lib.hid (hO.out.trans hO1)
  have sw5 := hO1.size
  clear a0 a18
  clear hT1 hO1
  have a19 : w5.cell? ⟨w.heap.size, 19, none⟩ = some (.slice aD adn adc) := by rw [ka.out.cell]; rfl
  go_wp2_with fail
  refine (tnumI (w.heap.size + 1) ([] ++ [((afr).toNat, 1)] ++ [((att).toNat, 1)] ++ [((aep).toNat, 2)] ++ [((anu).toNat, 3)] ++ [(bP awa, 1)]) 1 ((adn : Int)) 1 (by omega) (by omega) (by omega) (by omega) rfl (by simp [total, total_app, ptD_total]) w5 hT.out).mono ?_
  rintro en w6 ⟨rfl, hT1, hO1⟩
  replace ka := Lib.hid (hO1.blk ka.out (by omega))
  replace hT := Lib.hid hT1
  replace hO := Lib.hid (hO.out.trans hO1)
  have sw6 := hO1.size
  clear a19
  clear hT1 hO1
  have a19 : w6.cell? ⟨w.heap.size, 19, none⟩ = some (.slice aD adn adc) := by rw [ka.out.cell]; rfl
  replace hT : Hid (Txt w6 (w.heap.size + 1) (([] ++ [((afr).toNat, 1)] ++ [((att).toNat, 1)] ++ [((aep).toNat, 2)] ++ [((anu).toNat, 3)] ++ [(bP awa, 1)] ++ [(adn, 1)]) ++ dsP (l.take 0))) := Lib.hid (by simpa [dsP] using hT.out)
  obtain ⟨P0, hP0⟩ : ∃ P, [] ++ [((afr).toNat, 1)] ++ [((att).toNat, 1)] ++ [((aep).toNat, 2)] ++ [((anu).toNat, 3)] ++ [(bP awa, 1)] ++ [(adn, 1)] = P := ⟨_, rfl⟩
  rw [hP0] at hT
  have gP0 := Lib.hid hP0
  have gt0 : Hid (total P0 = 9) := Lib.hid (by rw [← hP0]; simp [total, total_app])
  clear hP0
  have hat : Hid (∀ k, k < adn → ∃ ad, aD = some ad ∧ ad.block < w.heap.size ∧ ∀ w', Below w.heap.size w w' → w'.cell? (ad.add (k * 2)) = some (.int .i64 (tz l k).1) ∧ w'.cell? ⟨(ad.add (k * 2)).block, (ad.add (k * 2)).off + 1, none⟩ = some (.int .i64 (tz l k).2)) := Lib.hid (fun k hk => hr.at_ hk)
  have ghm := Lib.hid hm
  clear hm hr
  have hO0 := hO
  have hT0 := hT
  clear hO hT
  go_wp2
  go_loopw [80] (fun t wr => ∃ k : Nat, k ≤ adn ∧ t = .int .i64 (k : Int) ∧ Hid (Txt wr (w.heap.size + 1) (P0 ++ dsP (l.take k))) ∧ Hid (Only (w.heap.size + 1) V wr)) (fun t _ => adn - (intOf t).toNat)
  case atStart => exact ⟨0, Nat.zero_le _, rfl, hT0, hO0⟩
  case round =>
    clear hT0 hO0 a19
    obtain ⟨k, hk, rfl, hT, hO⟩ := hrel
    by_cases hlt : k < adn
    · obtain ⟨ad, rfl, hab, hc⟩ := hat.out k hlt
      have sr := hO.out.size
      have hbr : Below w.heap.size w wr := hB.trans (hO.out.below (by omega) (by omega))
      obtain ⟨c0, c1⟩ := hc wr hbr
      have i1 : (0 : Int) ≤ k := by omega
      have i2 : (k : Int) < adn := by omega
      have hmk := ghm.out k hlt
      have gsn := Lib.hid (dsP_snoc (l := l) (k := k) (by omega))
      have gtk : Hid (total (P0 ++ dsP (l.take k)) = 9 + 5 * k) := Lib.hid (by rw [total_app, gt0.out, dsP_total, List.length_take]; omega)
      obtain ⟨⟨x, y⟩, hxy⟩ : ∃ x, tz l k = x := ⟨_, rfl⟩
      rw [hxy] at c0 c1 hmk
      replace gsn : Hid (dsP (l.take (k + 1)) = dsP (l.take k) ++ [(x.toNat, 1), (y.toNat, 4)]) := Lib.hid (by rw [gsn.out, hxy])
      clear hxy hc
      simp only [mayT, Bool.and_eq_true, decide_eq_true_eq] at hmk
      obtain ⟨⟨⟨m1, m2⟩, m3⟩, m4⟩ := hmk
      obtain ⟨U, hU⟩ : ∃ U, U = wr.alloc (.cells #[.int .i64 x, .int .i64 y] 73) := ⟨_, rfl⟩
      have hbU : Below wr.heap.size wr U := by rw [hU]; exact (Below.refl _ _).alloc (Nat.le_refl _) _
      have kU : Blk U wr.heap.size 73 #[.int .i64 x, .int .i64 y] := by rw [hU]; exact Blk.new _ _ _
      have z0 : U.cell? ⟨wr.heap.size, 0, none⟩ = some (.int .i64 x) := by rw [kU.cell]; rfl
      have sU := hbU.size
      have hTU := hT.out.below hbU
      have gU := Lib.hid kU
      have gbU := Lib.hid hbU
      clear kU hbU
      go_upto_region 21 with (fail)
      rw [← hU]
      clear hU c0 c1
      go_wp2_with fail
      refine (tnumI (w.heap.size + 1) (P0 ++ dsP (l.take k)) 1 x 1 (by omega) (by omega) (by omega) (by omega) rfl (by rw [gtk.out]; omega) U hTU).mono ?_
      rintro en w7 ⟨rfl, hT1, hO1⟩
      have s7 := hO1.size
      have gT1 := Lib.hid hT1
      have gO1 := Lib.hid hO1
      replace gU := Lib.hid (hO1.blk gU.out (by omega))
      clear z0 hT1 hO1 hTU
      have z1 : w7.cell? ⟨wr.heap.size, 1, none⟩ = some (.int .i64 y) := by rw [gU.out.cell]; rfl
      go_wp2_with fail
      refine (tnumI (w.heap.size + 1) ((P0 ++ dsP (l.take k)) ++ [(x.toNat, 1)]) 4 y 4 (by omega) (by omega) (by omega) (by omega) rfl (by rw [total_app, gtk.out]; simp [total]; omega) w7 gT1.out).mono ?_
      rintro en w8 ⟨rfl, hT2, hO2⟩
      have gT3 : Hid (Txt w8 (w.heap.size + 1) (P0 ++ dsP (l.take (k + 1)))) := Lib.hid (by rw [gsn.out]; simpa using hT2)
      have gO3 : Hid (Only (w.heap.size + 1) V w8) := Lib.hid (((hO.out.trans (Only.of_below gbU.out)).trans gO1.out).trans hO2)
      clear z1 hT2 hO2 gT1 gO1 gU gbU
      go_wp2
      go_roundw
      case rel => exact ⟨k + 1, by omega, by go_num, gT3, gO3⟩
      case measure => simp [intOf]; omega
    · obtain rfl : k = adn := by omega
      have hTf : Txt wr (w.heap.size + 1) (P0 ++ dsP l) := by have := hT.out; rwa [List.take_of_length_le (by omega)] at this
      have hTg := hTf.below (Below.refl _ _)
      clear hT hTg
      obtain ⟨X, cc, kt, ho⟩ := hTf
      have z0 := kt.cell 0
      simp only [List.getElem?_toArray, List.getElem?_cons_zero] at z0
      have gho := Lib.hid ho
      have sr := hO.out.size
      have hB9 := Lib.hid (hB.trans (hO.out.below (by omega) (by omega)))
      clear kt ho hO hat
      go_wp2
      go_ret
      refine ⟨X, cc, ?_⟩
      have e : (afr.toNat, 1) :: (att.toNat, 1) :: (aep.toNat, 2) :: (anu.toNat, 3) :: (bP awa, 1) :: (k, 1) :: dsP l = P0 ++ dsP l := by rw [← gP0.out]; rfl
      rw [e]
      exact ⟨rfl, own_mono gho.out (by omega), hB9.out⟩
end Go.Proofs.Ytjmhefkmpfkpbaa
namespace Go.Proofs.Ytjmhefkmpfkpbaa
open Go.ChangeShapes Go.WideShapes Go.ChangeAt Go.RowKit
set_option linter.unusedSimpArgs false
set_option linter.unusedVariables false
set_option maxRecDepth 100000 in
set_option maxHeartbeats 16000000 in
theorem con6 {afr att aep anu aab : Int} {ag0 : Bool} {aX0 : Option Addr} {an0 ac0 : Nat} {ae0 : Int} {ag1 : Bool} {aX1 : Option Addr} {an1 ac1 : Nat} {ae1 : Int} {ag2 : Bool} {aX2 : Option Addr} {an2 ac2 : Nat} {ae2 : Int} {ag3 : Bool} {aX3 : Option Addr} {an3 ac3 : Nat} {ae3 : Int} {awa : Bool} {aD : Option Addr} {adn adc : Nat} {aeh : Bool} {ax1 ax2 : Int} {aL : Option Addr} {aln alc : Nat} (w : World) (hfr : 0 ≤ afr ∧ afr < 8) (htt : 0 ≤ att ∧ att < 8) (hep : 0 ≤ aep ∧ aep ≤ 65535) (hnu : 0 ≤ anu ∧ anu ≤ 1048575) (l : List Nat) (hn : aln ≤ 8) (hl : l.length = aln) (hr : Reads w w.heap.size 1 aL aln (ints .u32 l)) (hb : ∀ x ∈ l, x < 4294967296) (he1 : -2147483647 ≤ ax1 ∧ ax1 ≤ 2147483647) (he2 : -2147483647 ≤ ax2 ∧ ax2 ≤ 2147483647) : Calls Try.prog 26 #[.agg #[.int .u8 6, .int .i64 afr, .int .i64 att, .int .i64 aep, .int .i64 anu, .int .i64 aab, .bool ag0, .slice aX0 an0 ac0, .int .i64 ae0, .bool ag1, .slice aX1 an1 ac1, .int .i64 ae1, .bool ag2, .slice aX2 an2 ac2, .int .i64 ae2, .bool ag3, .slice aX3 an3 ac3, .int .i64 ae3, .bool awa, .slice aD adn adc, .bool aeh, .int .i64 ax1, .int .i64 ax2, .slice aL aln alc]] w fun en w' => ∃ X c, en = .returned (.slice X (total ([] ++ [((afr).toNat, 1)] ++ [((att).toNat, 1)] ++ [((aep).toNat, 2)] ++ [((anu).toNat, 3)] ++ [(bP aeh, 1)] ++ [((ax1 + 2147483648).toNat, 4)] ++ [((ax2 + 2147483648).toNat, 4)] ++ [(aln, 1)] ++ lsP l)) c) ∧ w'.ownsRow w.heap.size 5 1 (.slice X (total ([] ++ [((afr).toNat, 1)] ++ [((att).toNat, 1)] ++ [((aep).toNat, 2)] ++ [((anu).toNat, 3)] ++ [(bP aeh, 1)] ++ [((ax1 + 2147483648).toNat, 4)] ++ [((ax2 + 2147483648).toNat, 4)] ++ [(aln, 1)] ++ lsP l)) c) (total ([] ++ [((afr).toNat, 1)] ++ [((att).toNat, 1)] ++ [((aep).toNat, 2)] ++ [((anu).toNat, 3)] ++ [(bP aeh, 1)] ++ [((ax1 + 2147483648).toNat, 4)] ++ [((ax2 + 2147483648).toNat, 4)] ++ [(aln, 1)] ++ lsP l)) (u8s (flat ([] ++ [((afr).toNat, 1)] ++ [((att).toNat, 1)] ++ [((aep).toNat, 2)] ++ [((anu).toNat, 3)] ++ [(bP aeh, 1)] ++ [((ax1 + 2147483648).toNat, 4)] ++ [((ax2 + 2147483648).toNat, 4)] ++ [(aln, 1)] ++ lsP l))) ∧ Below w.heap.size w w' := by
  obtain ⟨V, hV⟩ : ∃ V, V = (w.alloc (.cells #[.int .u8 6, .int .i64 afr, .int .i64 att, .int .i64 aep, .int .i64 anu, .int .i64 aab, .bool ag0, .slice aX0 an0 ac0, .int .i64 ae0, .bool ag1, .slice aX1 an1 ac1, .int .i64 ae1, .bool ag2, .slice aX2 an2 ac2, .int .i64 ae2, .bool ag3, .slice aX3 an3 ac3, .int .i64 ae3, .bool awa, .slice aD adn adc, .bool aeh, .int .i64 ax1, .int .i64 ax2, .slice aL aln alc] 31)).alloc (.cells #[.slice none 0 0] 92) := ⟨_, rfl⟩
  have hB : Below w.heap.size w V := by rw [hV]; exact ((Below.refl _ _).alloc (Nat.le_refl _) _).alloc (by simp) _
  have ka : Hid (Blk V w.heap.size 31 #[.int .u8 6, .int .i64 afr, .int .i64 att, .int .i64 aep, .int .i64 anu, .int .i64 aab, .bool ag0, .slice aX0 an0 ac0, .int .i64 ae0, .bool ag1, .slice aX1 an1 ac1, .int .i64 ae1, .bool ag2, .slice aX2 an2 ac2, .int .i64 ae2, .bool ag3, .slice aX3 an3 ac3, .int .i64 ae3, .bool awa, .slice aD adn adc, .bool aeh, .int .i64 ax1, .int .i64 ax2, .slice aL aln alc]) := Lib.hid (by rw [hV]; exact (Blk.new w _ _).alloc _)
  have hT : Hid (Txt V (w.heap.size + 1) []) := Lib.hid (by rw [hV]; simpa using Txt.new_ (w.alloc (.cells #[.int .u8 6, .int .i64 afr, .int .i64 att, .int .i64 aep, .int .i64 anu, .int .i64 aab, .bool ag0, .slice aX0 an0 ac0, .int .i64 ae0, .bool ag1, .slice aX1 an1 ac1, .int .i64 ae1, .bool ag2, .slice aX2 an2 ac2, .int .i64 ae2, .bool ag3, .slice aX3 an3 ac3, .int .i64 ae3, .bool awa, .slice aD adn adc, .bool aeh, .int .i64 ax1, .int .i64 ax2, .slice aL aln alc] 31)))
  have hO : Hid (Only (w.heap.size + 1) V V) := Lib.hid (Only.refl _ _)
  have hVs : V.heap.size = w.heap.size + 2 := by rw [hV]; simp
  have x10 : IntKind.i64.wrap (ax1 + 2147483647) = ax1 + 2147483647 := IntWalk.i64_in _ (by omega)
  have x11 : IntKind.i64.wrap (ax1 + 2147483647 + 1) = ax1 + 2147483648 := by rw [IntWalk.i64_in _ (by omega)]; omega
  have x20 : IntKind.i64.wrap (ax2 + 2147483647) = ax2 + 2147483647 := IntWalk.i64_in _ (by omega)
  have x21 : IntKind.i64.wrap (ax2 + 2147483647 + 1) = ax2 + 2147483648 := by rw [IntWalk.i64_in _ (by omega)]; omega
  go_enter Try.func26, Try.ntmps26
  go_upto_region 3 with (fail)
  rw [← hV]
  clear hV
  have a1 : V.cell? ⟨w.heap.size, 1, none⟩ = some (.int .i64 afr) := by rw [ka.out.cell]; rfl
  go_wp2_with fail
  refine (tnumI (w.heap.size + 1) ([]) 1 (afr) 1 (by omega) (by omega) (by omega) (by omega) rfl (by simp [total, total_app, ptD_total]) V hT.out).mono ?_
  rintro en w1 ⟨rfl, hT1, hO1⟩
  replace ka := Lib.hid (hO1.blk ka.out (by omega))
  replace hT := Lib.hid hT1
  replace hO := Lib.hid (hO.out.trans hO1)
  have sw1 := hO1.size
  clear a1
  clear hT1 hO1
  have a2 : w1.cell? ⟨w.heap.size, 2, none⟩ = some (.int .i64 att) := by rw [ka.out.cell]; rfl
  go_wp2_with fail
  refine (tnumI (w.heap.size + 1) ([] ++ [((afr).toNat, 1)]) 1 (att) 1 (by omega) (by omega) (by omega) (by omega) rfl (by simp [total, total_app, ptD_total]) w1 hT.out).mono ?_
  rintro en w2 ⟨rfl, hT1, hO1⟩
  replace ka := Lib.hid (hO1.blk ka.out (by omega))
  replace hT := Lib.hid hT1
  replace hO := Lib.hid (hO.out.trans hO1)
  have sw2 := hO1.size
  clear a2
  clear hT1 hO1
  have a3 : w2.cell? ⟨w.heap.size, 3, none⟩ = some (.int .i64 aep) := by rw [ka.out.cell]; rfl
  go_wp2_with fail
  refine (tnumI (w.heap.size + 1) ([] ++ [((afr).toNat, 1)] ++ [((att).toNat, 1)]) 2 (aep) 2 (by omega) (by omega) (by omega) (by omega) rfl (by simp [total, total_app, ptD_total]) w2 hT.out).mono ?_
  rintro en w3 ⟨rfl, hT1, hO1⟩
  replace ka := Lib.hid (hO1.blk ka.out (by omega))
  replace hT := Lib.hid hT1
  replace hO := Lib.hid (hO.out.trans hO1)
  have sw3 := hO1.size
  clear a3
  clear hT1 hO1
  have a4 : w3.cell? ⟨w.heap.size, 4, none⟩ = some (.int .i64 anu) := by rw [ka.out.cell]; rfl
  go_wp2_with fail
  refine (tnumI (w.heap.size + 1) ([] ++ [((afr).toNat, 1)] ++ [((att).toNat, 1)] ++ [((aep).toNat, 2)]) 3 (anu) 3 (by omega) (by omega) (by omega) (by omega) rfl (by simp [total, total_app, ptD_total]) w3 hT.out).mono ?_
  rintro en w4 ⟨rfl, hT1, hO1⟩
  replace ka := Lib.hid (hO1.blk ka.out (by omega))
  replace hT := Lib.hid hT1
  replace hO := Lib.hid (hO.out.trans hO1)
  have sw4 := hO1.size
  clear a4
  clear hT1 hO1
  have a0 : w4.cell? ⟨w.heap.size, 0, none⟩ = some (.int .u8 6) := by rw [ka.out.cell]; rfl
  have a20 : w4.cell? ⟨w.heap.size, 20, none⟩ = some (.bool aeh) := by rw [ka.out.cell]; rfl
  go_wp2_with fail
  refine (tflag (w.heap.size + 1) ([] ++ [((afr).toNat, 1)] ++ [((att).toNat, 1)] ++ [((aep).toNat, 2)] ++ [((anu).toNat, 3)]) aeh (by simp [total, total_app]) w4 hT.out).mono ?_
  rintro en w5 ⟨rfl, hT1, hO1⟩
  replace ka := Lib.hid (hO1.blk ka.out (by omega))
  replace hT := Lib.hid hT1
  replace hO := Lib.hid (hO.out.trans hO1)
  have sw5 := hO1.size
  clear a0 a20
  clear hT1 hO1
  have a21 : w5.cell? ⟨w.heap.size, 21, none⟩ = some (.int .i64 ax1) := by rw [ka.out.cell]; rfl
  go_wp2_with fail
  refine (tnumI (w.heap.size + 1) ([] ++ [((afr).toNat, 1)] ++ [((att).toNat, 1)] ++ [((aep).toNat, 2)] ++ [((anu).toNat, 3)] ++ [(bP aeh, 1)]) 4 (ax1 + 2147483648) 4 (by omega) (by omega) (by omega) (by omega) rfl (by simp [total, total_app, ptD_total]) w5 hT.out).mono ?_
  rintro en w6 ⟨rfl, hT1, hO1⟩
  replace ka := Lib.hid (hO1.blk ka.out (by omega))
  replace hT := Lib.hid hT1
  replace hO := Lib.hid (hO.out.trans hO1)
  have sw6 := hO1.size
  clear a21
  clear hT1 hO1
  have a22 : w6.cell? ⟨w.heap.size, 22, none⟩ = some (.int .i64 ax2) := by rw [ka.out.cell]; rfl
  go_wp2_with fail
  refine (tnumI (w.heap.size + 1) ([] ++ [((afr).toNat, 1)] ++ [((att).toNat, 1)] ++ [((aep).toNat, 2)] ++ [((anu).toNat, 3)] ++ [(bP aeh, 1)] ++ [((ax1 + 2147483648).toNat, 4)]) 4 (ax2 + 2147483648) 4 (by omega) (by omega) (by omega) (by omega) rfl (by simp [total, total_app, ptD_total]) w6 hT.out).mono ?_
  rintro en w7 ⟨rfl, hT1, hO1⟩
  replace ka := Lib.hid (hO1.blk ka.out (by omega))
  replace hT := Lib.hid hT1
  replace hO := Lib.hid (hO.out.trans hO1)
  have sw7 := hO1.size
  clear a22
  clear hT1 hO1
  have a23 : w7.cell? ⟨w.heap.size, 23, none⟩ = some (.slice aL aln alc) := by rw [ka.out.cell]; rfl
  go_wp2_with fail
  refine (tnumI (w.heap.size + 1) ([] ++ [((afr).toNat, 1)] ++ [((att).toNat, 1)] ++ [((aep).toNat, 2)] ++ [((anu).toNat, 3)] ++ [(bP aeh, 1)] ++ [((ax1 + 2147483648).toNat, 4)] ++ [((ax2 + 2147483648).toNat, 4)]) 1 ((aln : Int)) 1 (by omega) (by omega) (by omega) (by omega) rfl (by simp [total, total_app, ptD_total]) w7 hT.out).mono ?_
  rintro en w8 ⟨rfl, hT1, hO1⟩
  replace ka := Lib.hid (hO1.blk ka.out (by omega))
  replace hT := Lib.hid hT1
  replace hO := Lib.hid (hO.out.trans hO1)
  have sw8 := hO1.size
  clear a23
  clear hT1 hO1
  have a23 : w8.cell? ⟨w.heap.size, 23, none⟩ = some (.slice aL aln alc) := by rw [ka.out.cell]; rfl
  replace hT : Hid (Txt w8 (w.heap.size + 1) (([] ++ [((afr).toNat, 1)] ++ [((att).toNat, 1)] ++ [((aep).toNat, 2)] ++ [((anu).toNat, 3)] ++ [(bP aeh, 1)] ++ [((ax1 + 2147483648).toNat, 4)] ++ [((ax2 + 2147483648).toNat, 4)] ++ [(aln, 1)]) ++ lsP (l.take 0))) := Lib.hid (by simpa [lsP] using hT.out)
  obtain ⟨P0, hP0⟩ : ∃ P, [] ++ [((afr).toNat, 1)] ++ [((att).toNat, 1)] ++ [((aep).toNat, 2)] ++ [((anu).toNat, 3)] ++ [(bP aeh, 1)] ++ [((ax1 + 2147483648).toNat, 4)] ++ [((ax2 + 2147483648).toNat, 4)] ++ [(aln, 1)] = P := ⟨_, rfl⟩
  rw [hP0] at hT
  have gP0 := Lib.hid hP0
  have gt0 : Hid (total P0 = 17) := Lib.hid (by rw [← hP0]; simp [total, total_app])
  clear hP0 x10 x11 x20 x21
  have gr := Lib.hid hr
  have gb := Lib.hid hb
  have gln := Lib.hid hl
  clear hb hr hl
  have hO0 := hO
  have hT0 := hT
  clear hO hT
  go_wp2
  go_loopw [122] (fun t wr => ∃ k : Nat, k ≤ aln ∧ t = .int .i64 (k : Int) ∧ Hid (Txt wr (w.heap.size + 1) (P0 ++ lsP (l.take k))) ∧ Hid (Only (w.heap.size + 1) V wr)) (fun t _ => aln - (intOf t).toNat)
  case atStart => exact ⟨0, Nat.zero_le _, rfl, hT0, hO0⟩
  case round =>
    clear hT0 hO0 a23
    obtain ⟨k, hk, rfl, hT, hO⟩ := hrel
    by_cases hlt : k < aln
    · have sr := hO.out.size
      have hbr : Below w.heap.size w wr := hB.trans (hO.out.below (by omega) (by omega))
      obtain ⟨ad, u, rfl, hab, hu, hc⟩ := (gr.out.below hbr).at_ hlt
      obtain ⟨x, hx⟩ : ∃ x, l.getD k 0 = x := ⟨_, rfl⟩
      have hux : u = .int .u32 (x : Int) := by simp only [ints, List.getElem?_map] at hu; rw [List.getElem?_eq_getElem (by rw [gln.out]; exact hlt)] at hu; injection hu with hu; rw [← hu, ← hx, List.getD_eq_getElem?_getD, List.getElem?_eq_getElem (by rw [gln.out]; exact hlt)]; rfl
      subst hux
      have hxb : x < 4294967296 := by rw [← hx, List.getD_eq_getElem?_getD, List.getElem?_eq_getElem (by rw [gln.out]; exact hlt)]; exact gb.out _ (List.getElem_mem _)
      have i1 : (0 : Int) ≤ k := by omega
      have i2 : (k : Int) < aln := by omega
      have gsn : Hid (lsP (l.take (k + 1)) = lsP (l.take k) ++ [(x, 4)]) := Lib.hid (by rw [lsP_snoc (by rw [gln.out]; exact hlt), hx])
      have gtk : Hid (total (P0 ++ lsP (l.take k)) = 17 + 4 * k) := Lib.hid (by rw [total_app, gt0.out, lsP_total, List.length_take, gln.out]; omega)
      have x9 : IntKind.i64.wrap (x : Int) = x := IntWalk.i64_in _ (by omega)
      clear hu hx
      go_wp2_with fail
      refine (tnumI (w.heap.size + 1) (P0 ++ lsP (l.take k)) 4 (x : Int) 4 (by omega) (by omega) (by omega) (by omega) rfl (by rw [gtk.out]; omega) wr hT.out).mono ?_
      rintro en w8 ⟨rfl, hT2, hO2⟩
      have gT3 : Hid (Txt w8 (w.heap.size + 1) (P0 ++ lsP (l.take (k + 1)))) := Lib.hid (by rw [gsn.out]; simpa using hT2)
      have gO3 : Hid (Only (w.heap.size + 1) V w8) := Lib.hid (hO.out.trans hO2)
      clear hc hT2 hO2 x9 hbr
      go_wp2
      go_roundw
      case rel => exact ⟨k + 1, by omega, by go_num, gT3, gO3⟩
      case measure => simp [intOf]; omega
    · obtain rfl : k = aln := by omega
      have hTf : Txt wr (w.heap.size + 1) (P0 ++ lsP l) := by have := hT.out; rwa [List.take_of_length_le (by rw [gln.out]; exact Nat.le_refl _)] at this
      clear hT
      obtain ⟨X, cc, kt, ho⟩ := hTf
      have z0 := kt.cell 0
      simp only [List.getElem?_toArray, List.getElem?_cons_zero] at z0
      have gho := Lib.hid ho
      have sr := hO.out.size
      have hB9 := Lib.hid (hB.trans (hO.out.below (by omega) (by omega)))
      clear kt ho hO
      go_wp2
      go_ret
      refine ⟨X, cc, ?_⟩
      have e : (afr.toNat, 1) :: (att.toNat, 1) :: (aep.toNat, 2) :: (anu.toNat, 3) :: (bP aeh, 1) :: ((ax1 + 2147483648).toNat, 4) :: ((ax2 + 2147483648).toNat, 4) :: (k, 1) :: lsP l = P0 ++ lsP l := by rw [← gP0.out]; rfl
      rw [e]
      exact ⟨rfl, own_mono gho.out (by omega), hB9.out⟩
end Go.Proofs.Ytjmhefkmpfkpbaa
