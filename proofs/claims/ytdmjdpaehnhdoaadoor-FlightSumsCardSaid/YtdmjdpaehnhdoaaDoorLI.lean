/- Flight: loads are written over -/
import Derived.Test.YtdmjdpaehnhdoaaDoorLD
namespace Go.Proofs.YtdmjdpaehnhdoaaDoor
open Go.ChangeShapes Go.WideShapes Go.ChangeAt Go.RowKit
set_option linter.unusedSimpArgs false
set_option linter.unusedVariables false
theorem fdsE_len (l : List En) : ∀ r ∈ l.map fdsE, r.length = 15 := by
  intro r hr
  obtain ⟨x, _, rfl⟩ := List.mem_map.1 hr
  simp [fdsE, fdsM, fdsD]
set_option maxHeartbeats 8000000 in
theorem lspoil_any (S : Nat → Prop) (A : Option Addr) (n c : Nat) (l : List En) (hm : n ≤ 1000) (hs1 : ∀ x ∈ l, smM x.give) (w : World) (hW : Wr w S 48 15 A n (l.map fdsE)) :
    Calls Tryd.prog 18 #[.slice A n c] w fun en w' => en = .returned (.tuple #[]) ∧ Fr S w w' := by
  have ln : l.length = n := by have := hW.1; simpa using this
  have gln := Lib.hid ln
  have hfl := Lib.hid (fdsE_len l)
  have gs := Lib.hid hs1
  have hF0 := Fr.refl S w
  clear ln hs1
  go_enter Tryd.func18, Tryd.ntmps18
  go_wp2
  go_loopw [2] (fun t wr => ∃ k : Nat, k ≤ n ∧ t = .int .i64 (k : Int) ∧ Wr wr S 48 15 A n (l.map fdsE) ∧ Fr S w wr) (fun t _ => n - (intOf t).toNat)
  case atStart => exact ⟨0, Nat.zero_le _, rfl, hW, hF0⟩
  case round =>
    clear hW hF0
    obtain ⟨k, hk, rfl, hW, hF⟩ := hrel
    by_cases hlt : k < n
    · obtain ⟨cp, hcp⟩ : ∃ cp, l[k]? = some cp := ⟨_, List.getElem?_eq_getElem (show k < l.length by rw [gln.out]; exact hlt)⟩
      have hr : (l.map fdsE)[k]? = some (fdsE cp) := by rw [List.getElem?_map, hcp]; rfl
      have hqs := gs.out _ (List.mem_of_getElem? hcp)
      obtain ⟨g, v, rfl, hg, cv, cf, hW2, hF2⟩ := hW.set_val hr (j := 0) rfl hfl.out (.int .i64 (-7))
      rw [Nat.add_zero] at cv cf hW2 hF2
      have hF3 := hF.trans hF2
      have i1 : (0 : Int) ≤ k := by omega
      have i2 : (k : Int) < n := by omega
      have grr := Lib.hid hr
      clear hW hcp hr hF hF2
      go_wp2
      obtain ⟨wo, hwo⟩ : ∃ wo, wo = wr.setCell ⟨g, k * 15, none⟩ (.int .i64 (-7)) := ⟨_, rfl⟩
      rw [← hwo] at hW2 hF3 ⊢
      clear hwo cv cf
      obtain ⟨g2, X, m, d, hA, hg2, hxl, cX, hz9⟩ := hW2.set_row (q := 0) grr.out (j := 4) rfl
      injection hA with hA
      injection hA with hA _ _
      subst hA
      have hm5 : m ≤ 100000 := by rw [← hxl]; exact hqs.1
      have cX' : wo.cell? ⟨g, k * 15 + 3 + 1, none⟩ = some (.slice X m d) := cX
      clear hz9 hxl
      go_loopw [3] (fun t wx => ∃ q : Nat, q ≤ m ∧ t = .int .i64 (q : Int) ∧ Wr wx S 48 15 (some ⟨g, 0, none⟩) n (l.map fdsE) ∧ Fr S w wx ∧ wx.cell? ⟨g, k * 15 + 3 + 1, none⟩ = some (.slice X m d)) (fun t _ => m - (intOf t).toNat)
      case atStart => exact ⟨0, Nat.zero_le _, rfl, hW2, hF3, cX'⟩
      case round =>
        clear hW2 hF3 cX cX'
        obtain ⟨q, hq, rfl, hW, hF, cX⟩ := hrel
        by_cases hlt2 : q < m
        · obtain ⟨g2, X2, m2, d2, hA, hg2, hxl, cX2, hset⟩ := hW.set_row (q := q) grr.out (j := 4) rfl
          injection hA with hA
          injection hA with hA _ _
          subst hA
          have cX5 : wr.cell? ⟨g, k * 15 + 4, none⟩ = some (.slice X m d) := cX
          rw [cX5] at cX2
          injection cX2 with cX2
          injection cX2 with hX hm2 hd
          subst hX hm2 hd
          obtain ⟨g', v', rfl, hg', cv', cf', hset2⟩ := hset hlt2
          obtain ⟨hW3, hF3⟩ := hset2 (.int .u32 7)
          have hF4 := hF.trans hF3
          have hne : g' ≠ g := by
            obtain ⟨ga, cur, e1, _, hba, hca⟩ := hW.2 (by omega)
            injection e1 with e1
            injection e1 with e1 _ _
            subst e1
            obtain ⟨va, hva, hwa⟩ := hca k _ grr.out 4 _ rfl
            obtain ⟨Xa, ma, da, e2, e3, hwr⟩ := hwa
            have e4 := hba.cell (k * 15 + 4)
            rw [cX5, hva, e2] at e4
            injection e4 with e4
            injection e4 with e5 e6 e7
            obtain ⟨gb, T, c1, e8, _, hbb, _, hT⟩ := hwr (by omega)
            rw [← e5] at e8
            injection e8 with e8
            injection e8 with e8 _ _
            subst e8
            exact hbb.ne_ hba hT
          have cX3 : (wr.setCell ⟨g', q, none⟩ (.int .u32 7)).cell? ⟨g, k * 15 + 3 + 1, none⟩ = some (.slice (some ⟨g', 0, none⟩) m d) := by
            rw [World.cell?_setCell_other wr _ _ _ (by intro e; injection e with e; exact hne e)]
            exact cX
          have i3 : (0 : Int) ≤ q := by omega
          have i4 : (q : Int) < m := by omega
          clear hset hset2 hxl hW hF hF3 cX5
          go_wp2
          go_roundw
          case rel => exact ⟨q + 1, by omega, by go_num, hW3, hF4, cX3⟩
          case measure => simp [intOf] <;> omega
        · obtain rfl : q = m := by omega
          go_wp2
          clear cX
          have hW2 := hW
          have hF3 := hF
          clear hW hF
          obtain ⟨g2, X, m, d, hA, hg2, hxl, cX, hz9⟩ := hW2.set_row (q := 0) grr.out (j := 13) rfl
          injection hA with hA
          injection hA with hA _ _
          subst hA
          have hm5 : m ≤ 100000 := by rw [← hxl]; exact hqs.2.2.2
          have cX' : wr.cell? ⟨g, k * 15 + 3 + 9 + 1, none⟩ = some (.slice X m d) := cX
          clear hz9 hxl
          go_loopw [4] (fun t wx => ∃ q : Nat, q ≤ m ∧ t = .int .i64 (q : Int) ∧ Wr wx S 48 15 (some ⟨g, 0, none⟩) n (l.map fdsE) ∧ Fr S w wx ∧ wx.cell? ⟨g, k * 15 + 3 + 9 + 1, none⟩ = some (.slice X m d)) (fun t _ => m - (intOf t).toNat)
          case atStart => exact ⟨0, Nat.zero_le _, rfl, hW2, hF3, cX'⟩
          case round =>
            clear hW2 hF3 cX cX'
            obtain ⟨q, hq, rfl, hW, hF, cX⟩ := hrel
            by_cases hlt2 : q < m
            · obtain ⟨g2, X2, m2, d2, hA, hg2, hxl, cX2, hset⟩ := hW.set_row (q := q) grr.out (j := 13) rfl
              injection hA with hA
              injection hA with hA _ _
              subst hA
              have cX5 : wr.cell? ⟨g, k * 15 + 13, none⟩ = some (.slice X m d) := cX
              rw [cX5] at cX2
              injection cX2 with cX2
              injection cX2 with hX hm2 hd
              subst hX hm2 hd
              obtain ⟨g', v', rfl, hg', cv', cf', hset2⟩ := hset hlt2
              obtain ⟨hW3, hF3⟩ := hset2 (.int .u32 7)
              have hF4 := hF.trans hF3
              have hne : g' ≠ g := by
                obtain ⟨ga, cur, e1, _, hba, hca⟩ := hW.2 (by omega)
                injection e1 with e1
                injection e1 with e1 _ _
                subst e1
                obtain ⟨va, hva, hwa⟩ := hca k _ grr.out 13 _ rfl
                obtain ⟨Xa, ma, da, e2, e3, hwr⟩ := hwa
                have e4 := hba.cell (k * 15 + 13)
                rw [cX5, hva, e2] at e4
                injection e4 with e4
                injection e4 with e5 e6 e7
                obtain ⟨gb, T, c1, e8, _, hbb, _, hT⟩ := hwr (by omega)
                rw [← e5] at e8
                injection e8 with e8
                injection e8 with e8 _ _
                subst e8
                exact hbb.ne_ hba hT
              have cX3 : (wr.setCell ⟨g', q, none⟩ (.int .u32 7)).cell? ⟨g, k * 15 + 3 + 9 + 1, none⟩ = some (.slice (some ⟨g', 0, none⟩) m d) := by
                rw [World.cell?_setCell_other wr _ _ _ (by intro e; injection e with e; exact hne e)]
                exact cX
              have i3 : (0 : Int) ≤ q := by omega
              have i4 : (q : Int) < m := by omega
              clear hset hset2 hxl hW hF hF3 cX5
              go_wp2
              go_roundw
              case rel => exact ⟨q + 1, by omega, by go_num, hW3, hF4, cX3⟩
              case measure => simp [intOf] <;> omega
            · obtain rfl : q = m := by omega
              go_wp2
              go_roundw
              case rel => exact ⟨k + 1, by omega, by go_num, hW, hF⟩
              case measure => simp [intOf] <;> omega
    · obtain rfl : k = n := by omega
      clear hW
      go_wp2
      go_end0
      exact ⟨rfl, hF⟩
end Go.Proofs.YtdmjdpaehnhdoaaDoor
