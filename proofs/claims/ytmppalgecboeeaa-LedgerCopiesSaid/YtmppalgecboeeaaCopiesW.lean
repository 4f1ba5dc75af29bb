/- Ledger: the walk of the law LedgerCopies -/
import Derived.Test.YtmppalgecboeeaaLI
namespace Go.Proofs.Ytmppalgecboeeaa
open Go.ChangeShapes Go.WideShapes Go.ChangeAt Go.RowKit
set_option linter.unusedSimpArgs false
set_option linter.unusedVariables false
theorem fine_sm {l : List En} (h : fine l) : ∀ x ∈ l, smM x.give := fun x hx => by
  have := h x hx
  unfold smM
  omega
theorem fdsE_len (l : List En) : ∀ r, r ∈ l.map fdsE → r.length = 14 := by
  intro r hr
  obtain ⟨x, _, rfl⟩ := List.mem_map.1 hr
  rfl
set_option maxRecDepth 100000 in
set_option maxHeartbeats 16000000 in
theorem LedgerCopies.walk (A A2 : Option Addr) (n n2 c c2 : Nat) (l o : List En) (hmx : n ≤ maxLen) (hmx2 : n2 ≤ maxLen) (w : World) (h1 : Ens w w.heap.size A n l) (h2 : Ens w w.heap.size A2 n2 o) :
    Calls Try.prog 3 #[.slice A n c, .slice A2 n2 c2] w fun en w' => en = .returned (.bool true) ∧ Below w.heap.size w w' := by
  have gln := Lib.hid (ens_len h1)
  have gln2 := Lib.hid (ens_len h2)
  have hg1 := egreat_any A n c l hmx w h1
  go_enter Try.func3, Try.ntmps3
  go_wp2_with fail
  refine hg1.mono ?_
  rintro e w1 ⟨G, rfl, hb1, hG⟩
  cases G with
  | true =>
    clear h1 h2 hG hg1
    go_wp2
    go_ret
    exact ⟨rfl, hb1⟩
  | false =>
  have gG := Lib.hid (hG rfl)
  have hg2 := egreat_any A2 n2 c2 o hmx2 w1 ((h2.below hb1).more hb1.size)
  clear hG hg1
  go_wp2_with fail
  refine hg2.mono ?_
  rintro e w2 ⟨G, rfl, hb2, hG⟩
  have hB2 := hb1.trans (hb2.mono hb1.size)
  cases G with
  | true =>
    clear h1 h2 hG hg2
    go_wp2
    go_ret
    exact ⟨rfl, hB2⟩
  | false =>
  have gG2 := Lib.hid (hG rfl)
  have hn : n ≤ 10000 := by have := gG.out.1; rw [gln.out] at this; omega
  have hn2 : n2 ≤ 10000 := by have := gG2.out.1; rw [gln2.out] at this; omega
  have hs := Lib.hid (fine_sm gG.out.2)
  have hs2 := Lib.hid (fine_sm gG2.out.2)
  have r1 := Lib.hid ((h1.below hB2).more hB2.size)
  have r2 := Lib.hid ((h2.below hB2).more hB2.size)
  have ht1 := retwin_any A n c l hn hs.out w2 r1.out
  clear h1 h2 hG hg2
  go_wp2_with fail
  refine ht1.mono ?_
  rintro e w3 ⟨Ao, co, rfl, hco, oo, _, hb3, _⟩
  have ro := Lib.hid oo
  have ht2 := etwin_any Ao n co l hn hs.out w3 oo
  clear ht1 oo
  go_wp2_with fail
  refine ht2.mono ?_
  rintro e w4 ⟨At, ct, rfl, hct, ot, hwt, hb4, _⟩
  have rt := Lib.hid ot
  have gwt := Lib.hid hwt
  clear ht2 ot hwt
  obtain ⟨R, hR⟩ : ∃ R, decide (l = o) = R := ⟨_, rfl⟩
  have gR := Lib.hid hR
  clear hR
  have k2 := hb3.trans (hb4.mono hb3.size)
  have k3 := hb4
  have k4 := Below.refl w4.heap.size w4
  have s4 := hb4.size
  have KS : w2.heap.size ≤ w3.heap.size := hb3.size
  clear hb3 hb4
  have hsq := resame_any At A n n ct c l l hn hn hs.out hs.out true (by simp) w4 ((rt.out.below k4).more k4.size) ((r1.out.below k2).more k2.size)
  go_wp2_with fail
  refine hsq.mono ?_
  rintro e w5 ⟨rfl, hb⟩
  replace k2 := k2.trans (hb.mono k2.size)
  replace k3 := k3.trans (hb.mono k3.size)
  replace k4 := k4.trans (hb.mono k4.size)
  clear hsq hb
  have hsq := esame_any Ao A2 n n2 co c2 l o hn hn2 hs.out hs2.out R gR.out w5 ((ro.out.below k3).more k3.size) ((r2.out.below k2).more k2.size)
  go_wp2_with fail
  refine hsq.mono ?_
  rintro e w6 ⟨rfl, hb⟩
  replace k2 := k2.trans (hb.mono k2.size)
  replace k3 := k3.trans (hb.mono k3.size)
  replace k4 := k4.trans (hb.mono k4.size)
  clear hsq hb
  have hsq := resame_any A A2 n n2 c c2 l o hn hn2 hs.out hs2.out R gR.out w6 ((r1.out.below k2).more k2.size) ((r2.out.below k2).more k2.size)
  go_wp2_with fail
  refine hsq.mono ?_
  rintro e w7 ⟨rfl, hb⟩
  replace k2 := k2.trans (hb.mono k2.size)
  replace k3 := k3.trans (hb.mono k3.size)
  replace k4 := k4.trans (hb.mono k4.size)
  clear hsq hb
  have hsq := esame_any Ao A n n co c l l hn hn hs.out hs.out true (by simp) w7 ((ro.out.below k3).more k3.size) ((r1.out.below k2).more k2.size)
  go_wp2_with fail
  refine hsq.mono ?_
  rintro e w8 ⟨rfl, hb⟩
  replace k2 := k2.trans (hb.mono k2.size)
  replace k3 := k3.trans (hb.mono k3.size)
  replace k4 := k4.trans (hb.mono k4.size)
  clear hsq hb
  have gw8 : Hid (Wr w8 (fun g => w3.heap.size ≤ g ∧ g < w4.heap.size) 33 14 At n (l.map fdsE)) := Lib.hid (gwt.out.below k4)
  have s8 := k4.size
  have k0 : Below w3.heap.size w8 w8 := Below.refl _ _
  clear k4 gwt rt
  go_wp2
  go_loopw [8] (fun t wr => ∃ k : Nat, k ≤ n ∧ t = .int .i64 (k : Int) ∧ Hid (Wr wr (fun g => w3.heap.size ≤ g ∧ g < w4.heap.size) 33 14 At n (l.map fdsE)) ∧ Below w3.heap.size w8 wr) (fun t _ => n - (intOf t).toNat)
  case atStart => exact ⟨0, Nat.zero_le _, rfl, gw8, k0⟩
  case round =>
    clear gw8 k0
    obtain ⟨k, hk, rfl, gw, hB⟩ := hrel
    by_cases hlt : k < n
    · have hWr := gw.out
      obtain ⟨x, hx⟩ : ∃ x, l[k]? = some x := ⟨_, List.getElem?_eq_getElem (by have := gln.out; omega)⟩
      have hxr : (l.map fdsE)[k]? = some (fdsE x) := by rw [List.getElem?_map, hx]; rfl
      have hsx := hs.out x (List.mem_of_getElem? hx)
      obtain ⟨g, cur, hA, hSg, hbk, hc⟩ := hWr.2 (by omega)
      subst hA
      obtain ⟨u1, v1, _⟩ := hc k _ hxr 1 _ rfl
      obtain ⟨u2, v2, _⟩ := hc k _ hxr 2 _ rfl
      obtain ⟨_, v3, X0, n0, c0, rfl, hn0, hw0⟩ := hc k _ hxr 3 _ rfl
      obtain ⟨u4, v4, _⟩ := hc k _ hxr 4 _ rfl
      obtain ⟨u5, v5, _⟩ := hc k _ hxr 5 _ rfl
      obtain ⟨_, v6, X1, n1, c1, rfl, hn1, hw1⟩ := hc k _ hxr 6 _ rfl
      obtain ⟨u7, v7, _⟩ := hc k _ hxr 7 _ rfl
      obtain ⟨u8, v8, _⟩ := hc k _ hxr 8 _ rfl
      obtain ⟨_, v9, X2, n2', c2', rfl, hn2', hw2⟩ := hc k _ hxr 9 _ rfl
      obtain ⟨u10, v10, _⟩ := hc k _ hxr 10 _ rfl
      obtain ⟨u11, v11, _⟩ := hc k _ hxr 11 _ rfl
      obtain ⟨_, v12, X3, n3, c3, rfl, hn3, hw3⟩ := hc k _ hxr 12 _ rfl
      obtain ⟨u13, v13, _⟩ := hc k _ hxr 13 _ rfl
      have hp : (⟨g, 0, none⟩ : Addr).add (k * 14) = ⟨g, k * 14, none⟩ := by unfold Addr.add; split <;> simp_all
      have x2 : wr.cell? ⟨g, k * 14 + 2, none⟩ = some (u2) := (hbk.cell (k * 14 + 2)).trans v2
      have x3 : wr.cell? ⟨g, k * 14 + 2 + 1, none⟩ = some (.slice X0 n0 c0) := (hbk.cell (k * 14 + 3)).trans v3
      have x4 : wr.cell? ⟨g, k * 14 + 2 + 2, none⟩ = some (u4) := (hbk.cell (k * 14 + 4)).trans v4
      have x5 : wr.cell? ⟨g, k * 14 + 2 + 3, none⟩ = some (u5) := (hbk.cell (k * 14 + 5)).trans v5
      have x6 : wr.cell? ⟨g, k * 14 + 2 + 4, none⟩ = some (.slice X1 n1 c1) := (hbk.cell (k * 14 + 6)).trans v6
      have x7 : wr.cell? ⟨g, k * 14 + 2 + 5, none⟩ = some (u7) := (hbk.cell (k * 14 + 7)).trans v7
      have x8 : wr.cell? ⟨g, k * 14 + 2 + 6, none⟩ = some (u8) := (hbk.cell (k * 14 + 8)).trans v8
      have x9 : wr.cell? ⟨g, k * 14 + 2 + 7, none⟩ = some (.slice X2 n2' c2') := (hbk.cell (k * 14 + 9)).trans v9
      have x10 : wr.cell? ⟨g, k * 14 + 2 + 8, none⟩ = some (u10) := (hbk.cell (k * 14 + 10)).trans v10
      have x11 : wr.cell? ⟨g, k * 14 + 2 + 9, none⟩ = some (u11) := (hbk.cell (k * 14 + 11)).trans v11
      have x12 : wr.cell? ⟨g, k * 14 + 2 + 10, none⟩ = some (.slice X3 n3 c3) := (hbk.cell (k * 14 + 12)).trans v12
      have x13 : wr.cell? ⟨g, k * 14 + 2 + 11, none⟩ = some (u13) := (hbk.cell (k * 14 + 13)).trans v13
      have hsp := mspoil_any (fun g => w3.heap.size ≤ g ∧ g < w4.heap.size) u2 u4 u5 u7 u8 u10 u11 u13 X0 n0 c0 X1 n1 c1 X2 n2' c2' X3 n3 c3 wr (fun g hg => by have := hB.size; have := hg.2; omega) (by rw [← hn0]; exact hsx.1) hw0 (by rw [← hn1]; exact hsx.2.1) hw1 (by rw [← hn2']; exact hsx.2.2.1) hw2 (by rw [← hn3]; exact hsx.2.2.2) hw3
      have i1 : (0 : Int) ≤ k := by omega
      have i2 : (k : Int) < n := by omega
      have gxr := Lib.hid hxr
      clear hx hsx hc hxr hSg v1 v2 v3 v4 v5 v6 v7 v8 v9 v10 v11 v12 v13 hn0 hn1 hn2' hn3 hw0 hw1 hw2 hw3
      go_wp2_with fail
      refine hsp.mono ?_
      rintro e w9 ⟨rfl, hsr⟩
      have hWr9 := hWr.spR hsr
      obtain ⟨g2, v, hA2, hg2, hc2, hf2, hW2, _⟩ := hWr9.set_val (j := 1) (x := .int .u8 x.why) gxr.out rfl (fdsE_len l) (.int .u8 7)
      injection hA2 with hA2
      injection hA2 with hA2 _ _
      subst hA2
      have hB9 := hB.trans (hsr.below (B := w3.heap.size) (by have := hB.size; omega) (fun g hg => hg.1))
      have hgb : w3.heap.size ≤ g := by
        obtain ⟨g3, cur3, hA3, hS3, _⟩ := hWr.2 (by omega)
        injection hA3 with hA3
        injection hA3 with hA3 _ _
        rw [hA3]
        exact hS3.1
      have gW2 := Lib.hid hW2
      have hB10 := hB9.setCell (p := ⟨g, k * 14 + 1, none⟩) hgb (.int .u8 7)
      clear hsp hWr hWr9 hsr hW2 hB hB9 hbk x2 x3 x4 x5 x6 x7 x8 x9 x10 x11 x12 x13
      go_wp2
      go_roundw
      case rel => exact ⟨k + 1, by omega, by go_num, gW2, hB10⟩
      case measure => simp [intOf]; omega
    · obtain rfl : k = n := by omega
      have hz := resame_any Ao A k k co c l l hn hn hs.out hs.out true (by simp) wr ((ro.out.below (k3.trans hB)).more (k3.trans hB).size) ((r1.out.below (k2.trans (hB.mono KS))).more (k2.trans (hB.mono KS)).size)
      clear gw
      go_wp2_with fail
      refine hz.mono ?_
      rintro e w9 ⟨rfl, hb9⟩
      have hB9 := hB2.trans (((k2.trans (hB.mono KS)).trans (hb9.mono (k2.trans (hB.mono KS)).size)).mono hB2.size)
      go_wp2
      go_ret
      exact ⟨rfl, hB9⟩
end Go.Proofs.Ytmppalgecboeeaa
