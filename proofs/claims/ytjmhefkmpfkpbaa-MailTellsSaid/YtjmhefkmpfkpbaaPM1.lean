/- Mail: the content of a mail: kinds 1 to 4 -/
import Derived.Test.YtjmhefkmpfkpbaaZPL
namespace Go.Proofs.Ytjmhefkmpfkpbaa
open Go.ChangeShapes Go.WideShapes Go.ChangeAt Go.RowKit
set_option linter.unusedSimpArgs false
set_option linter.unusedVariables false
set_option maxRecDepth 100000 in
set_option maxHeartbeats 16000000 in
theorem con1 {afr att aep anu aab : Int} {ag0 : Bool} {aX0 : Option Addr} {an0 ac0 : Nat} {ae0 : Int} {ag1 : Bool} {aX1 : Option Addr} {an1 ac1 : Nat} {ae1 : Int} {ag2 : Bool} {aX2 : Option Addr} {an2 ac2 : Nat} {ae2 : Int} {ag3 : Bool} {aX3 : Option Addr} {an3 ac3 : Nat} {ae3 : Int} {awa : Bool} {aD : Option Addr} {adn adc : Nat} {aeh : Bool} {ax1 ax2 : Int} {aL : Option Addr} {aln alc : Nat} (w : World) (hfr : 0 ≤ afr ∧ afr < 8) (htt : 0 ≤ att ∧ att < 8) (hep : 0 ≤ aep ∧ aep ≤ 65535) (hnu : 0 ≤ anu ∧ anu ≤ 1048575) (l0 l1 : List Nat) (hn0 : l0.length = an0) (hn1 : l1.length = an1) (hq0 : l0.length ≤ 40) (hq1 : l1.length ≤ 40) (hr0 : Reads w w.heap.size 1 aX0 an0 (ints .u32 l0)) (hr1 : Reads w w.heap.size 1 aX1 an1 (ints .u32 l1)) (hm0 : mayd ⟨ag0, l0, ae0⟩ = true) (hm1 : mayd ⟨ag1, l1, ae1⟩ = true) (hb0 : ∀ x ∈ l0, x < 4294967296) (hb1 : ∀ x ∈ l1, x < 4294967296) : Calls Try.prog 26 #[.agg #[.int .u8 1, .int .i64 afr, .int .i64 att, .int .i64 aep, .int .i64 anu, .int .i64 aab, .bool ag0, .slice aX0 an0 ac0, .int .i64 ae0, .bool ag1, .slice aX1 an1 ac1, .int .i64 ae1, .bool ag2, .slice aX2 an2 ac2, .int .i64 ae2, .bool ag3, .slice aX3 an3 ac3, .int .i64 ae3, .bool awa, .slice aD adn adc, .bool aeh, .int .i64 ax1, .int .i64 ax2, .slice aL aln alc]] w fun en w' => ∃ X c, en = .returned (.slice X (total ([] ++ [((afr).toNat, 1)] ++ [((att).toNat, 1)] ++ [((aep).toNat, 2)] ++ [((anu).toNat, 3)] ++ ptD ⟨ag0, l0, ae0⟩ ++ ptD ⟨ag1, l1, ae1⟩)) c) ∧ w'.ownsRow w.heap.size 5 1 (.slice X (total ([] ++ [((afr).toNat, 1)] ++ [((att).toNat, 1)] ++ [((aep).toNat, 2)] ++ [((anu).toNat, 3)] ++ ptD ⟨ag0, l0, ae0⟩ ++ ptD ⟨ag1, l1, ae1⟩)) c) (total ([] ++ [((afr).toNat, 1)] ++ [((att).toNat, 1)] ++ [((aep).toNat, 2)] ++ [((anu).toNat, 3)] ++ ptD ⟨ag0, l0, ae0⟩ ++ ptD ⟨ag1, l1, ae1⟩)) (u8s (flat ([] ++ [((afr).toNat, 1)] ++ [((att).toNat, 1)] ++ [((aep).toNat, 2)] ++ [((anu).toNat, 3)] ++ ptD ⟨ag0, l0, ae0⟩ ++ ptD ⟨ag1, l1, ae1⟩))) ∧ Below w.heap.size w w' := by
  obtain ⟨V, hV⟩ : ∃ V, V = (w.alloc (.cells #[.int .u8 1, .int .i64 afr, .int .i64 att, .int .i64 aep, .int .i64 anu, .int .i64 aab, .bool ag0, .slice aX0 an0 ac0, .int .i64 ae0, .bool ag1, .slice aX1 an1 ac1, .int .i64 ae1, .bool ag2, .slice aX2 an2 ac2, .int .i64 ae2, .bool ag3, .slice aX3 an3 ac3, .int .i64 ae3, .bool awa, .slice aD adn adc, .bool aeh, .int .i64 ax1, .int .i64 ax2, .slice aL aln alc] 31)).alloc (.cells #[.slice none 0 0] 92) := ⟨_, rfl⟩
  have hB : Below w.heap.size w V := by rw [hV]; exact ((Below.refl _ _).alloc (Nat.le_refl _) _).alloc (by simp) _
  have ka : Hid (Blk V w.heap.size 31 #[.int .u8 1, .int .i64 afr, .int .i64 att, .int .i64 aep, .int .i64 anu, .int .i64 aab, .bool ag0, .slice aX0 an0 ac0, .int .i64 ae0, .bool ag1, .slice aX1 an1 ac1, .int .i64 ae1, .bool ag2, .slice aX2 an2 ac2, .int .i64 ae2, .bool ag3, .slice aX3 an3 ac3, .int .i64 ae3, .bool awa, .slice aD adn adc, .bool aeh, .int .i64 ax1, .int .i64 ax2, .slice aL aln alc]) := Lib.hid (by rw [hV]; exact (Blk.new w _ _).alloc _)
  have hT : Hid (Txt V (w.heap.size + 1) []) := Lib.hid (by rw [hV]; simpa using Txt.new_ (w.alloc (.cells #[.int .u8 1, .int .i64 afr, .int .i64 att, .int .i64 aep, .int .i64 anu, .int .i64 aab, .bool ag0, .slice aX0 an0 ac0, .int .i64 ae0, .bool ag1, .slice aX1 an1 ac1, .int .i64 ae1, .bool ag2, .slice aX2 an2 ac2, .int .i64 ae2, .bool ag3, .slice aX3 an3 ac3, .int .i64 ae3, .bool awa, .slice aD adn adc, .bool aeh, .int .i64 ax1, .int .i64 ax2, .slice aL aln alc] 31)))
  have hO : Hid (Only (w.heap.size + 1) V V) := Lib.hid (Only.refl _ _)
  have hVs : V.heap.size = w.heap.size + 2 := by rw [hV]; simp
  go_enter Try.func26, Try.ntmps26
  go_upto_region 3 with (fail)
  rw [← hV]
  clear hV
  have a1 : V.cell? ⟨w.heap.size, 1, none⟩ = some (.int .i64 afr) := by rw [ka.out.cell]; rfl
  go_wp2_with fail
  refine (tnumI (w.heap.size + 1) ([]) 1 (afr) 1 (by omega) (by omega) (by omega) (by omega) rfl (by simp [total, total_app, ptD_total]) V hT.out).mono ?_
  rintro en w1 ⟨rfl, hT1, hO1⟩
  replace ka := Lib.hid (hO1.blk ka.out (by omega))
  replace hT := Lib.hid hT1
  replace hO := Lib.hid (hO.out.trans hO1)
  have sw1 := hO1.size
  clear a1
  clear hT1 hO1
  have a2 : w1.cell? ⟨w.heap.size, 2, none⟩ = some (.int .i64 att) := by rw [ka.out.cell]; rfl
  go_wp2_with fail
  refine (tnumI (w.heap.size + 1) ([] ++ [((afr).toNat, 1)]) 1 (att) 1 (by omega) (by omega) (by omega) (by omega) rfl (by simp [total, total_app, ptD_total]) w1 hT.out).mono ?_
  rintro en w2 ⟨rfl, hT1, hO1⟩
  replace ka := Lib.hid (hO1.blk ka.out (by omega))
  replace hT := Lib.hid hT1
  replace hO := Lib.hid (hO.out.trans hO1)
  have sw2 := hO1.size
  clear a2
  clear hT1 hO1
  have a3 : w2.cell? ⟨w.heap.size, 3, none⟩ = some (.int .i64 aep) := by rw [ka.out.cell]; rfl
  go_wp2_with fail
  refine (tnumI (w.heap.size + 1) ([] ++ [((afr).toNat, 1)] ++ [((att).toNat, 1)]) 2 (aep) 2 (by omega) (by omega) (by omega) (by omega) rfl (by simp [total, total_app, ptD_total]) w2 hT.out).mono ?_
  rintro en w3 ⟨rfl, hT1, hO1⟩
  replace ka := Lib.hid (hO1.blk ka.out (by omega))
  replace hT := Lib.hid hT1
  replace hO := Lib.hid (hO.out.trans hO1)
  have sw3 := hO1.size
  clear a3
  clear hT1 hO1
  have a4 : w3.cell? ⟨w.heap.size, 4, none⟩ = some (.int .i64 anu) := by rw [ka.out.cell]; rfl
  go_wp2_with fail
  refine (tnumI (w.heap.size + 1) ([] ++ [((afr).toNat, 1)] ++ [((att).toNat, 1)] ++ [((aep).toNat, 2)]) 3 (anu) 3 (by omega) (by omega) (by omega) (by omega) rfl (by simp [total, total_app, ptD_total]) w3 hT.out).mono ?_
  rintro en w4 ⟨rfl, hT1, hO1⟩
  replace ka := Lib.hid (hO1.blk ka.out (by omega))
  replace hT := Lib.hid hT1
  replace hO := Lib.hid (hO.out.trans hO1)
  have sw4 := hO1.size
  clear a4
  clear hT1 hO1
  have a0 : w4.cell? ⟨w.heap.size, 0, none⟩ = some (.int .u8 1) := by rw [ka.out.cell]; rfl
  have a6 : w4.cell? ⟨w.heap.size, 6, none⟩ = some (.bool ag0) := by rw [ka.out.cell]; rfl
  have a7 : w4.cell? ⟨w.heap.size, 7, none⟩ = some (.slice aX0 an0 ac0) := by rw [ka.out.cell]; rfl
  have a8 : w4.cell? ⟨w.heap.size, 8, none⟩ = some (.int .i64 ae0) := by rw [ka.out.cell]; rfl
  have a9 : w4.cell? ⟨w.heap.size, 9, none⟩ = some (.bool ag1) := by rw [ka.out.cell]; rfl
  have a10 : w4.cell? ⟨w.heap.size, 10, none⟩ = some (.slice aX1 an1 ac1) := by rw [ka.out.cell]; rfl
  have a11 : w4.cell? ⟨w.heap.size, 11, none⟩ = some (.int .i64 ae1) := by rw [ka.out.cell]; rfl
  go_wp2_with fail
  obtain ⟨U, hU⟩ : ∃ U, U = w4.alloc (.cells #[.bool ag0, .slice aX0 an0 ac0, .int .i64 ae0, .bool ag1, .slice aX1 an1 ac1, .int .i64 ae1] 24) := ⟨_, rfl⟩
  rw [← hU]
  have hbU : Below w4.heap.size w4 U := by rw [hU]; exact (Below.refl _ _).alloc (Nat.le_refl _) _
  have kU : Blk U w4.heap.size 24 #[.bool ag0, .slice aX0 an0 ac0, .int .i64 ae0, .bool ag1, .slice aX1 an1 ac1, .int .i64 ae1] := by rw [hU]; exact Blk.new _ _ _
  clear hU
  have hBU : Below w.heap.size w U := (hB.trans (hO.out.below (by omega) (by omega))).trans (hbU.mono (by omega))
  have hgU : w4.heap.size ≠ w.heap.size + 1 := by omega
  have hrow : ∀ k, k < 2 → ∀ w', Only (w.heap.size + 1) U w' → (w'.cell? ⟨w4.heap.size, k * 3, none⟩ = some (.bool ((fun k => if k = 0 then (⟨ag0, l0, ae0⟩ : Dy) else ⟨ag1, l1, ae1⟩) k).neg) ∧ w'.cell? ⟨w4.heap.size, k * 3 + 1, none⟩ = some (.slice ((fun k => if k = 0 then aX0 else aX1) k) ((fun k => if k = 0 then (⟨ag0, l0, ae0⟩ : Dy) else ⟨ag1, l1, ae1⟩) k).ls.length ((fun k => if k = 0 then ac0 else ac1) k)) ∧ w'.cell? ⟨w4.heap.size, k * 3 + 2, none⟩ = some (.int .i64 ((fun k => if k = 0 then (⟨ag0, l0, ae0⟩ : Dy) else ⟨ag1, l1, ae1⟩) k).ex)) ∧ Reads w' w'.heap.size 1 ((fun k => if k = 0 then aX0 else aX1) k) ((fun k => if k = 0 then (⟨ag0, l0, ae0⟩ : Dy) else ⟨ag1, l1, ae1⟩) k).ls.length (ints .u32 ((fun k => if k = 0 then (⟨ag0, l0, ae0⟩ : Dy) else ⟨ag1, l1, ae1⟩) k).ls) := by
    intro k hk w' hw
    have kw := hw.blk kU hgU
    have hbw : Below w.heap.size w w' := hBU.trans (hw.below (by have := hbU.size; omega) (by omega))
    have hc : k = 0 ∨ k = 1 := by omega
    rcases hc with rfl | rfl
    · refine ⟨⟨by rw [kw.cell]; rfl, by rw [kw.cell]; simp [hn0], by rw [kw.cell]; rfl⟩, ?_⟩
      simp only [if_true]
      rw [hn0]
      exact (hr0.below hbw).more hbw.size
    · refine ⟨⟨by rw [kw.cell]; rfl, by rw [kw.cell]; simp [hn1], by rw [kw.cell]; rfl⟩, ?_⟩
      simp only [Nat.one_ne_zero, if_false]
      rw [hn1]
      exact (hr1.below hbw).more hbw.size
  have hmy : ∀ k, k < 2 → mayd ((fun k => if k = 0 then (⟨ag0, l0, ae0⟩ : Dy) else ⟨ag1, l1, ae1⟩) k) = true := by
    intro k hk
    have hc : k = 0 ∨ k = 1 := by omega
    rcases hc with rfl | rfl
    · exact hm0
    · exact hm1
  have hlt2 : ∀ k, k < 2 → ∀ x ∈ ((fun k => if k = 0 then (⟨ag0, l0, ae0⟩ : Dy) else ⟨ag1, l1, ae1⟩) k).ls, x < 4294967296 := by
    intro k hk
    have hc : k = 0 ∨ k = 1 := by omega
    rcases hc with rfl | rfl
    · exact hb0
    · exact hb1
  have hDD := tdyads (w.heap.size + 1) w4.heap.size ([] ++ [((afr).toNat, 1)] ++ [((att).toNat, 1)] ++ [((aep).toNat, 2)] ++ [((anu).toNat, 3)]) (fun k => if k = 0 then (⟨ag0, l0, ae0⟩ : Dy) else ⟨ag1, l1, ae1⟩) (fun k => if k = 0 then aX0 else aX1) (fun k => if k = 0 then ac0 else ac1) U (hT.out.below hbU) (by simp [total, total_app, ptD_total]; omega) hrow hmy hlt2
  simp only [if_true, Nat.one_ne_zero, if_false] at hDD
  clear hrow
  refine hDD.mono ?_
  rintro en w5 ⟨rfl, hT1, hO1⟩
  replace hT := Lib.hid hT1
  replace hO := Lib.hid ((hO.out.trans (Only.of_below hbU)).trans hO1)
  have sw5 := hO1.size
  have sU := hbU.size
  clear a0 a6 a7 a8 a9 a10 a11
  clear hT1 hO1 hDD kU hbU hBU hgU ka
  obtain ⟨X, cc, kt, ho⟩ := hT.out
  have z0 := kt.cell 0
  simp only [List.getElem?_toArray, List.getElem?_cons_zero] at z0
  have gho := Lib.hid ho
  clear kt ho hT
  go_wp2
  go_ret
  exact ⟨X, cc, rfl, own_mono gho.out (by omega), hB.trans (hO.out.below (by omega) (by omega))⟩
set_option maxRecDepth 100000 in
set_option maxHeartbeats 16000000 in
theorem con2 {afr att aep anu aab : Int} {ag0 : Bool} {aX0 : Option Addr} {an0 ac0 : Nat} {ae0 : Int} {ag1 : Bool} {aX1 : Option Addr} {an1 ac1 : Nat} {ae1 : Int} {ag2 : Bool} {aX2 : Option Addr} {an2 ac2 : Nat} {ae2 : Int} {ag3 : Bool} {aX3 : Option Addr} {an3 ac3 : Nat} {ae3 : Int} {awa : Bool} {aD : Option Addr} {adn adc : Nat} {aeh : Bool} {ax1 ax2 : Int} {aL : Option Addr} {aln alc : Nat} (w : World) (hfr : 0 ≤ afr ∧ afr < 8) (htt : 0 ≤ att ∧ att < 8) (hep : 0 ≤ aep ∧ aep ≤ 65535) (hnu : 0 ≤ anu ∧ anu ≤ 1048575) (l0 l1 : List Nat) (hn0 : l0.length = an2) (hn1 : l1.length = an3) (hq0 : l0.length ≤ 40) (hq1 : l1.length ≤ 40) (hr0 : Reads w w.heap.size 1 aX2 an2 (ints .u32 l0)) (hr1 : Reads w w.heap.size 1 aX3 an3 (ints .u32 l1)) (hm0 : mayd ⟨ag2, l0, ae2⟩ = true) (hm1 : mayd ⟨ag3, l1, ae3⟩ = true) (hb0 : ∀ x ∈ l0, x < 4294967296) (hb1 : ∀ x ∈ l1, x < 4294967296) : Calls Try.prog 26 #[.agg #[.int .u8 2, .int .i64 afr, .int .i64 att, .int .i64 aep, .int .i64 anu, .int .i64 aab, .bool ag0, .slice aX0 an0 ac0, .int .i64 ae0, .bool ag1, .slice aX1 an1 ac1, .int .i64 ae1, .bool ag2, .slice aX2 an2 ac2, .int .i64 ae2, .bool ag3, .slice aX3 an3 ac3, .int .i64 ae3, .bool awa, .slice aD adn adc, .bool aeh, .int .i64 ax1, .int .i64 ax2, .slice aL aln alc]] w fun en w' => ∃ X c, en = .returned (.slice X (total ([] ++ [((afr).toNat, 1)] ++ [((att).toNat, 1)] ++ [((aep).toNat, 2)] ++ [((anu).toNat, 3)] ++ ptD ⟨ag2, l0, ae2⟩ ++ ptD ⟨ag3, l1, ae3⟩)) c) ∧ w'.ownsRow w.heap.size 5 1 (.slice X (total ([] ++ [((afr).toNat, 1)] ++ [((att).toNat, 1)] ++ [((aep).toNat, 2)] ++ [((anu).toNat, 3)] ++ ptD ⟨ag2, l0, ae2⟩ ++ ptD ⟨ag3, l1, ae3⟩)) c) (total ([] ++ [((afr).toNat, 1)] ++ [((att).toNat, 1)] ++ [((aep).toNat, 2)] ++ [((anu).toNat, 3)] ++ ptD ⟨ag2, l0, ae2⟩ ++ ptD ⟨ag3, l1, ae3⟩)) (u8s (flat ([] ++ [((afr).toNat, 1)] ++ [((att).toNat, 1)] ++ [((aep).toNat, 2)] ++ [((anu).toNat, 3)] ++ ptD ⟨ag2, l0, ae2⟩ ++ ptD ⟨ag3, l1, ae3⟩))) ∧ Below w.heap.size w w' := by
  obtain ⟨V, hV⟩ : ∃ V, V = (w.alloc (.cells #[.int .u8 2, .int .i64 afr, .int .i64 att, .int .i64 aep, .int .i64 anu, .int .i64 aab, .bool ag0, .slice aX0 an0 ac0, .int .i64 ae0, .bool ag1, .slice aX1 an1 ac1, .int .i64 ae1, .bool ag2, .slice aX2 an2 ac2, .int .i64 ae2, .bool ag3, .slice aX3 an3 ac3, .int .i64 ae3, .bool awa, .slice aD adn adc, .bool aeh, .int .i64 ax1, .int .i64 ax2, .slice aL aln alc] 31)).alloc (.cells #[.slice none 0 0] 92) := ⟨_, rfl⟩
  have hB : Below w.heap.size w V := by rw [hV]; exact ((Below.refl _ _).alloc (Nat.le_refl _) _).alloc (by simp) _
  have ka : Hid (Blk V w.heap.size 31 #[.int .u8 2, .int .i64 afr, .int .i64 att, .int .i64 aep, .int .i64 anu, .int .i64 aab, .bool ag0, .slice aX0 an0 ac0, .int .i64 ae0, .bool ag1, .slice aX1 an1 ac1, .int .i64 ae1, .bool ag2, .slice aX2 an2 ac2, .int .i64 ae2, .bool ag3, .slice aX3 an3 ac3, .int .i64 ae3, .bool awa, .slice aD adn adc, .bool aeh, .int .i64 ax1, .int .i64 ax2, .slice aL aln alc]) := Lib.hid (by rw [hV]; exact (Blk.new w _ _).alloc _)
  have hT : Hid (Txt V (w.heap.size + 1) []) := Lib.hid (by rw [hV]; simpa using Txt.new_ (w.alloc (.cells #[.int .u8 2, .int .i64 afr, .int .i64 att, .int .i64 aep, .int .i64 anu, .int .i64 aab, .bool ag0, .slice aX0 an0 ac0, .int .i64 ae0, .bool ag1, .slice aX1 an1 ac1, .int .i64 ae1, .bool ag2, .slice aX2 an2 ac2, .int .i64 ae2, .bool ag3, .slice aX3 an3 ac3, .int .i64 ae3, .bool awa, .slice aD adn adc, .bool aeh, .int .i64 ax1, .int .i64 ax2, .slice aL aln alc] 31)))
  have hO : Hid (Only (w.heap.size + 1) V V) := Lib.hid (Only.refl _ _)
  have hVs : V.heap.size = w.heap.size + 2 := by rw [hV]; simp
  go_enter Try.func26, Try.ntmps26
  go_upto_region 3 with (fail)
  rw [← hV]
  clear hV
  have a1 : V.cell? ⟨w.heap.size, 1, none⟩ = some (.int .i64 afr) := by rw [ka.out.cell]; rfl
  go_wp2_with fail
  refine (tnumI (w.heap.size + 1) ([]) 1 (afr) 1 (by omega) (by omega) (by omega) (by omega) rfl (by simp [total, total_app, ptD_total]) V hT.out).mono ?_
  rintro en w1 ⟨rfl, hT1, hO1⟩
  replace ka := Lib.hid (hO1.blk ka.out (by omega))
  replace hT := Lib.hid hT1
  replace hO := Lib.hid (hO.out.trans hO1)
  have sw1 := hO1.size
  clear a1
  clear hT1 hO1
  have a2 : w1.cell? ⟨w.heap.size, 2, none⟩ = some (.int .i64 att) := by rw [ka.out.cell]; rfl
  go_wp2_with fail
  refine (tnumI (w.heap.size + 1) ([] ++ [((afr).toNat, 1)]) 1 (att) 1 (by omega) (by omega) (by omega) (by omega) rfl (by simp [total, total_app, ptD_total]) w1 hT.out).mono ?_
  rintro en w2 ⟨rfl, hT1, hO1⟩
  replace ka := Lib.hid (hO1.blk ka.out (by omega))
  replace hT := Lib.hid hT1
  replace hO := Lib.hid (hO.out.trans hO1)
  have sw2 := hO1.size
  clear a2
  clear hT1 hO1
  have a3 : w2.cell? ⟨w.heap.size, 3, none⟩ = some (.int .i64 aep) := by rw [ka.out.cell]; rfl
  go_wp2_with fail
  refine (tnumI (w.heap.size + 1) ([] ++ [((afr).toNat, 1)] ++ [((att).toNat, 1)]) 2 (aep) 2 (by omega) (by omega) (by omega) (by omega) rfl (by simp [total, total_app, ptD_total]) w2 hT.out).mono ?_
  rintro en w3 ⟨rfl, hT1, hO1⟩
  replace ka := Lib.hid (hO1.blk ka.out (by omega))
  replace hT := Lib.hid hT1
  replace hO := Lib.hid (hO.out.trans hO1)
  have sw3 := hO1.size
  clear a3
  clear hT1 hO1
  have a4 : w3.cell? ⟨w.heap.size, 4, none⟩ = some (.int .i64 anu) := by rw [ka.out.cell]; rfl
  go_wp2_with fail
  refine (tnumI (w.heap.size + 1) ([] ++ [((afr).toNat, 1)] ++ [((att).toNat, 1)] ++ [((aep).toNat, 2)]) 3 (anu) 3 (by omega) (by omega) (by omega) (by omega) rfl (by simp [total, total_app, ptD_total]) w3 hT.out).mono ?_
  rintro en w4 ⟨rfl, hT1, hO1⟩
  replace ka := Lib.hid (hO1.blk ka.out (by omega))
  replace hT := Lib.hid hT1
  replace hO := Lib.hid (hO.out.trans hO1)
  have sw4 := hO1.size
  clear a4
  clear hT1 hO1
  have a0 : w4.cell? ⟨w.heap.size, 0, none⟩ = some (.int .u8 2) := by rw [ka.out.cell]; rfl
  have a12 : w4.cell? ⟨w.heap.size, 12, none⟩ = some (.bool ag2) := by rw [ka.out.cell]; rfl
  have a13 : w4.cell? ⟨w.heap.size, 13, none⟩ = some (.slice aX2 an2 ac2) := by rw [ka.out.cell]; rfl
  have a14 : w4.cell? ⟨w.heap.size, 14, none⟩ = some (.int .i64 ae2) := by rw [ka.out.cell]; rfl
  have a15 : w4.cell? ⟨w.heap.size, 15, none⟩ = some (.bool ag3) := by rw [ka.out.cell]; rfl
  have a16 : w4.cell? ⟨w.heap.size, 16, none⟩ = some (.slice aX3 an3 ac3) := by rw [ka.out.cell]; rfl
  have a17 : w4.cell? ⟨w.heap.size, 17, none⟩ = some (.int .i64 ae3) := by rw [ka.out.cell]; rfl
  go_wp2_with fail
  obtain ⟨U, hU⟩ : ∃ U, U = w4.alloc (.cells #[.bool ag2, .slice aX2 an2 ac2, .int .i64 ae2, .bool ag3, .slice aX3 an3 ac3, .int .i64 ae3] 24) := ⟨_, rfl⟩
  rw [← hU]
  have hbU : Below w4.heap.size w4 U := by rw [hU]; exact (Below.refl _ _).alloc (Nat.le_refl _) _
  have kU : Blk U w4.heap.size 24 #[.bool ag2, .slice aX2 an2 ac2, .int .i64 ae2, .bool ag3, .slice aX3 an3 ac3, .int .i64 ae3] := by rw [hU]; exact Blk.new _ _ _
  clear hU
  have hBU : Below w.heap.size w U := (hB.trans (hO.out.below (by omega) (by omega))).trans (hbU.mono (by omega))
  have hgU : w4.heap.size ≠ w.heap.size + 1 := by omega
  have hrow : ∀ k, k < 2 → ∀ w', Only (w.heap.size + 1) U w' → (w'.cell? ⟨w4.heap.size, k * 3, none⟩ = some (.bool ((fun k => if k = 0 then (⟨ag2, l0, ae2⟩ : Dy) else ⟨ag3, l1, ae3⟩) k).neg) ∧ w'.cell? ⟨w4.heap.size, k * 3 + 1, none⟩ = some (.slice ((fun k => if k = 0 then aX2 else aX3) k) ((fun k => if k = 0 then (⟨ag2, l0, ae2⟩ : Dy) else ⟨ag3, l1, ae3⟩) k).ls.length ((fun k => if k = 0 then ac2 else ac3) k)) ∧ w'.cell? ⟨w4.heap.size, k * 3 + 2, none⟩ = some (.int .i64 ((fun k => if k = 0 then (⟨ag2, l0, ae2⟩ : Dy) else ⟨ag3, l1, ae3⟩) k).ex)) ∧ Reads w' w'.heap.size 1 ((fun k => if k = 0 then aX2 else aX3) k) ((fun k => if k = 0 then (⟨ag2, l0, ae2⟩ : Dy) else ⟨ag3, l1, ae3⟩) k).ls.length (ints .u32 ((fun k => if k = 0 then (⟨ag2, l0, ae2⟩ : Dy) else ⟨ag3, l1, ae3⟩) k).ls) := by
    intro k hk w' hw
    have kw := hw.blk kU hgU
    have hbw : Below w.heap.size w w' := hBU.trans (hw.below (by have := hbU.size; omega) (by omega))
    have hc : k = 0 ∨ k = 1 := by omega
    rcases hc with rfl | rfl
    · refine ⟨⟨by rw [kw.cell]; rfl, by rw [kw.cell]; simp [hn0], by rw [kw.cell]; rfl⟩, ?_⟩
      simp only [if_true]
      rw [hn0]
      exact (hr0.below hbw).more hbw.size
    · refine ⟨⟨by rw [kw.cell]; rfl, by rw [kw.cell]; simp [hn1], by rw [kw.cell]; rfl⟩, ?_⟩
      simp only [Nat.one_ne_zero, if_false]
      rw [hn1]
      exact (hr1.below hbw).more hbw.size
  have hmy : ∀ k, k < 2 → mayd ((fun k => if k = 0 then (⟨ag2, l0, ae2⟩ : Dy) else ⟨ag3, l1, ae3⟩) k) = true := by
    intro k hk
    have hc : k = 0 ∨ k = 1 := by omega
    rcases hc with rfl | rfl
    · exact hm0
    · exact hm1
  have hlt2 : ∀ k, k < 2 → ∀ x ∈ ((fun k => if k = 0 then (⟨ag2, l0, ae2⟩ : Dy) else ⟨ag3, l1, ae3⟩) k).ls, x < 4294967296 := by
    intro k hk
    have hc : k = 0 ∨ k = 1 := by omega
    rcases hc with rfl | rfl
    · exact hb0
    · exact hb1
  have hDD := tdyads (w.heap.size + 1) w4.heap.size ([] ++ [((afr).toNat, 1)] ++ [((att).toNat, 1)] ++ [((aep).toNat, 2)] ++ [((anu).toNat, 3)]) (fun k => if k = 0 then (⟨ag2, l0, ae2⟩ : Dy) else ⟨ag3, l1, ae3⟩) (fun k => if k = 0 then aX2 else aX3) (fun k => if k = 0 then ac2 else ac3) U (hT.out.below hbU) (by simp [total, total_app, ptD_total]; omega) hrow hmy hlt2
  simp only [if_true, Nat.one_ne_zero, if_false] at hDD
  clear hrow
  refine hDD.mono ?_
  rintro en w5 ⟨rfl, hT1, hO1⟩
  replace hT := Lib.hid hT1
  replace hO := Lib.hid ((hO.out.trans (Only.of_below hbU)).trans hO1)
  have sw5 := hO1.size
  have sU := hbU.size
  clear a0 a12 a13 a14 a15 a16 a17
  clear hT1 hO1 hDD kU hbU hBU hgU ka
  obtain ⟨X, cc, kt, ho⟩ := hT.out
  have z0 := kt.cell 0
  simp only [List.getElem?_toArray, List.getElem?_cons_zero] at z0
  have gho := Lib.hid ho
  clear kt ho hT
  go_wp2
  go_ret
  exact ⟨X, cc, rfl, own_mono gho.out (by omega), hB.trans (hO.out.below (by omega) (by omega))⟩
set_option maxRecDepth 100000 in
set_option maxHeartbeats 16000000 in
theorem con3 {afr att aep anu aab : Int} {ag0 : Bool} {aX0 : Option Addr} {an0 ac0 : Nat} {ae0 : Int} {ag1 : Bool} {aX1 : Option Addr} {an1 ac1 : Nat} {ae1 : Int} {ag2 : Bool} {aX2 : Option Addr} {an2 ac2 : Nat} {ae2 : Int} {ag3 : Bool} {aX3 : Option Addr} {an3 ac3 : Nat} {ae3 : Int} {awa : Bool} {aD : Option Addr} {adn adc : Nat} {aeh : Bool} {ax1 ax2 : Int} {aL : Option Addr} {aln alc : Nat} (w : World) (hfr : 0 ≤ afr ∧ afr < 8) (htt : 0 ≤ att ∧ att < 8) (hep : 0 ≤ aep ∧ aep ≤ 65535) (hnu : 0 ≤ anu ∧ anu ≤ 1048575) (hab : 0 ≤ aab ∧ aab ≤ 1048575) (l0 l1 : List Nat) (hn0 : l0.length = an2) (hn1 : l1.length = an3) (hq0 : l0.length ≤ 40) (hq1 : l1.length ≤ 40) (hr0 : Reads w w.heap.size 1 aX2 an2 (ints .u32 l0)) (hr1 : Reads w w.heap.size 1 aX3 an3 (ints .u32 l1)) (hm0 : mayd ⟨ag2, l0, ae2⟩ = true) (hm1 : mayd ⟨ag3, l1, ae3⟩ = true) (hb0 : ∀ x ∈ l0, x < 4294967296) (hb1 : ∀ x ∈ l1, x < 4294967296) : Calls Try.prog 26 #[.agg #[.int .u8 3, .int .i64 afr, .int .i64 att, .int .i64 aep, .int .i64 anu, .int .i64 aab, .bool ag0, .slice aX0 an0 ac0, .int .i64 ae0, .bool ag1, .slice aX1 an1 ac1, .int .i64 ae1, .bool ag2, .slice aX2 an2 ac2, .int .i64 ae2, .bool ag3, .slice aX3 an3 ac3, .int .i64 ae3, .bool awa, .slice aD adn adc, .bool aeh, .int .i64 ax1, .int .i64 ax2, .slice aL aln alc]] w fun en w' => ∃ X c, en = .returned (.slice X (total ([] ++ [((afr).toNat, 1)] ++ [((att).toNat, 1)] ++ [((aep).toNat, 2)] ++ [((anu).toNat, 3)] ++ [((aab).toNat, 3)] ++ ptD ⟨ag2, l0, ae2⟩ ++ ptD ⟨ag3, l1, ae3⟩)) c) ∧ w'.ownsRow w.heap.size 5 1 (.slice X (total ([] ++ [((afr).toNat, 1)] ++ [((att).toNat, 1)] ++ [((aep).toNat, 2)] ++ [((anu).toNat, 3)] ++ [((aab).toNat, 3)] ++ ptD ⟨ag2, l0, ae2⟩ ++ ptD ⟨ag3, l1, ae3⟩)) c) (total ([] ++ [((afr).toNat, 1)] ++ [((att).toNat, 1)] ++ [((aep).toNat, 2)] ++ [((anu).toNat, 3)] ++ [((aab).toNat, 3)] ++ ptD ⟨ag2, l0, ae2⟩ ++ ptD ⟨ag3, l1, ae3⟩)) (u8s (flat ([] ++ [((afr).toNat, 1)] ++ [((att).toNat, 1)] ++ [((aep).toNat, 2)] ++ [((anu).toNat, 3)] ++ [((aab).toNat, 3)] ++ ptD ⟨ag2, l0, ae2⟩ ++ ptD ⟨ag3, l1, ae3⟩))) ∧ Below w.heap.size w w' := by
  obtain ⟨V, hV⟩ : ∃ V, V = (w.alloc (.cells #[.int .u8 3, .int .i64 afr, .int .i64 att, .int .i64 aep, .int .i64 anu, .int .i64 aab, .bool ag0, .slice aX0 an0 ac0, .int .i64 ae0, .bool ag1, .slice aX1 an1 ac1, .int .i64 ae1, .bool ag2, .slice aX2 an2 ac2, .int .i64 ae2, .bool ag3, .slice aX3 an3 ac3, .int .i64 ae3, .bool awa, .slice aD adn adc, .bool aeh, .int .i64 ax1, .int .i64 ax2, .slice aL aln alc] 31)).alloc (.cells #[.slice none 0 0] 92) := ⟨_, rfl⟩
  have hB : Below w.heap.size w V := by rw [hV]; exact ((Below.refl _ _).alloc (Nat.le_refl _) _).alloc (by simp) _
  have ka : Hid (Blk V w.heap.size 31 #[.int .u8 3, .int .i64 afr, .int .i64 att, .int .i64 aep, .int .i64 anu, .int .i64 aab, .bool ag0, .slice aX0 an0 ac0, .int .i64 ae0, .bool ag1, .slice aX1 an1 ac1, .int .i64 ae1, .bool ag2, .slice aX2 an2 ac2, .int .i64 ae2, .bool ag3, .slice aX3 an3 ac3, .int .i64 ae3, .bool awa, .slice aD adn adc, .bool aeh, .int .i64 ax1, .int .i64 ax2, .slice aL aln alc]) := Lib.hid (by rw [hV]; exact (Blk.new w _ _).alloc _)
  have hT : Hid (Txt V (w.heap.size + 1) []) := Lib.hid (by rw [hV]; simpa using Txt.new_ (w.alloc (.cells #[.int .u8 3, .int .i64 afr, .int .i64 att, .int .i64 aep, .int .i64 anu, .int .i64 aab, .bool ag0, .slice aX0 an0 ac0, .int .i64 ae0, .bool ag1, .slice aX1 an1 ac1, .int .i64 ae1, .bool ag2, .slice aX2 an2 ac2, .int .i64 ae2, .bool ag3, .slice aX3 an3 ac3, .int .i64 ae3, .bool awa, .slice aD adn adc, .bool aeh, .int .i64 ax1, .int .i64 ax2, .slice aL aln alc] 31)))
  have hO : Hid (Only (w.heap.size + 1) V V) := Lib.hid (Only.refl _ _)
  have hVs : V.heap.size = w.heap.size + 2 := by rw [hV]; simp
  go_enter Try.func26, Try.ntmps26
  go_upto_region 3 with (fail)
  rw [← hV]
  clear hV
  have a1 : V.cell? ⟨w.heap.size, 1, none⟩ = some (.int .i64 afr) := by rw [ka.out.cell]; rfl
  go_wp2_with fail
  refine (tnumI (w.heap.size + 1) ([]) 1 (afr) 1 (by omega) (by omega) (by omega) (by omega) rfl (by simp [total, total_app, ptD_total]) V hT.out).mono ?_
  rintro en w1 ⟨rfl, hT1, hO1⟩
  replace ka := Lib.hid (hO1.blk ka.out (by omega))
  replace hT := Lib.hid hT1
  replace hO := Lib.hid (hO.out.trans hO1)
  have sw1 := hO1.size
  clear a1
  clear hT1 hO1
  have a2 : w1.cell? ⟨w.heap.size, 2, none⟩ = some (.int .i64 att) := by rw [ka.out.cell]; rfl
  go_wp2_with fail
  refine (tnumI (w.heap.size + 1) ([] ++ [((afr).toNat, 1)]) 1 (att) 1 (by omega) (by omega) (by omega) (by omega) rfl (by simp [total, total_app, ptD_total]) w1 hT.out).mono ?_
  rintro en w2 ⟨rfl, hT1, hO1⟩
  replace ka := Lib.hid (hO1.blk ka.out (by omega))
  replace hT := Lib.hid hT1
  replace hO := Lib.hid (hO.out.trans hO1)
  have sw2 := hO1.size
  clear a2
  clear hT1 hO1
  have a3 : w2.cell? ⟨w.heap.size, 3, none⟩ = some (.int .i64 aep) := by rw [ka.out.cell]; rfl
  go_wp2_with fail
  refine (tnumI (w.heap.size + 1) ([] ++ [((afr).toNat, 1)] ++ [((att).toNat, 1)]) 2 (aep) 2 (by omega) (by omega) (by omega) (by omega) rfl (by simp [total, total_app, ptD_total]) w2 hT.out).mono ?_
  rintro en w3 ⟨rfl, hT1, hO1⟩
  replace ka := Lib.hid (hO1.blk ka.out (by omega))
  replace hT := Lib.hid hT1
  replace hO := Lib.hid (hO.out.trans hO1)
  have sw3 := hO1.size
  clear a3
  clear hT1 hO1
  have a4 : w3.cell? ⟨w.heap.size, 4, none⟩ = some (.int .i64 anu) := by rw [ka.out.cell]; rfl
  go_wp2_with fail
  refine (tnumI (w.heap.size + 1) ([] ++ [((afr).toNat, 1)] ++ [((att).toNat, 1)] ++ [((aep).toNat, 2)]) 3 (anu) 3 (by omega) (by omega) (by omega) (by omega) rfl (by simp [total, total_app, ptD_total]) w3 hT.out).mono ?_
  rintro en w4 ⟨rfl, hT1, hO1⟩
  replace ka := Lib.hid (hO1.blk ka.out (by omega))
  replace hT := Lib.hid hT1
  replace hO := Lib.hid (hO.out.trans hO1)
  have sw4 := hO1.size
  clear a4
  clear hT1 hO1
  have a0 : w4.cell? ⟨w.heap.size, 0, none⟩ = some (.int .u8 3) := by rw [ka.out.cell]; rfl
  have a5 : w4.cell? ⟨w.heap.size, 5, none⟩ = some (.int .i64 aab) := by rw [ka.out.cell]; rfl
  go_wp2_with fail
  refine (tnumI (w.heap.size + 1) ([] ++ [((afr).toNat, 1)] ++ [((att).toNat, 1)] ++ [((aep).toNat, 2)] ++ [((anu).toNat, 3)]) 3 (aab) 3 (by omega) (by omega) (by omega) (by omega) rfl (by simp [total, total_app, ptD_total]) w4 hT.out).mono ?_
  rintro en w5 ⟨rfl, hT1, hO1⟩
  replace ka := Lib.hid (hO1.blk ka.out (by omega))
  replace hT := Lib.hid hT1
  replace hO := Lib.hid (hO.out.trans hO1)
  have sw5 := hO1.size
  clear a0 a5
  clear hT1 hO1
  have a0 : w5.cell? ⟨w.heap.size, 0, none⟩ = some (.int .u8 3) := by rw [ka.out.cell]; rfl
  have a12 : w5.cell? ⟨w.heap.size, 12, none⟩ = some (.bool ag2) := by rw [ka.out.cell]; rfl
  have a13 : w5.cell? ⟨w.heap.size, 13, none⟩ = some (.slice aX2 an2 ac2) := by rw [ka.out.cell]; rfl
  have a14 : w5.cell? ⟨w.heap.size, 14, none⟩ = some (.int .i64 ae2) := by rw [ka.out.cell]; rfl
  have a15 : w5.cell? ⟨w.heap.size, 15, none⟩ = some (.bool ag3) := by rw [ka.out.cell]; rfl
  have a16 : w5.cell? ⟨w.heap.size, 16, none⟩ = some (.slice aX3 an3 ac3) := by rw [ka.out.cell]; rfl
  have a17 : w5.cell? ⟨w.heap.size, 17, none⟩ = some (.int .i64 ae3) := by rw [ka.out.cell]; rfl
  go_wp2_with fail
  obtain ⟨U, hU⟩ : ∃ U, U = w5.alloc (.cells #[.bool ag2, .slice aX2 an2 ac2, .int .i64 ae2, .bool ag3, .slice aX3 an3 ac3, .int .i64 ae3] 24) := ⟨_, rfl⟩
  rw [← hU]
  have hbU : Below w5.heap.size w5 U := by rw [hU]; exact (Below.refl _ _).alloc (Nat.le_refl _) _
  have kU : Blk U w5.heap.size 24 #[.bool ag2, .slice aX2 an2 ac2, .int .i64 ae2, .bool ag3, .slice aX3 an3 ac3, .int .i64 ae3] := by rw [hU]; exact Blk.new _ _ _
  clear hU
  have hBU : Below w.heap.size w U := (hB.trans (hO.out.below (by omega) (by omega))).trans (hbU.mono (by omega))
  have hgU : w5.heap.size ≠ w.heap.size + 1 := by omega
  have hrow : ∀ k, k < 2 → ∀ w', Only (w.heap.size + 1) U w' → (w'.cell? ⟨w5.heap.size, k * 3, none⟩ = some (.bool ((fun k => if k = 0 then (⟨ag2, l0, ae2⟩ : Dy) else ⟨ag3, l1, ae3⟩) k).neg) ∧ w'.cell? ⟨w5.heap.size, k * 3 + 1, none⟩ = some (.slice ((fun k => if k = 0 then aX2 else aX3) k) ((fun k => if k = 0 then (⟨ag2, l0, ae2⟩ : Dy) else ⟨ag3, l1, ae3⟩) k).ls.length ((fun k => if k = 0 then ac2 else ac3) k)) ∧ w'.cell? ⟨w5.heap.size, k * 3 + 2, none⟩ = some (.int .i64 ((fun k => if k = 0 then (⟨ag2, l0, ae2⟩ : Dy) else ⟨ag3, l1, ae3⟩) k).ex)) ∧ Reads w' w'.heap.size 1 ((fun k => if k = 0 then aX2 else aX3) k) ((fun k => if k = 0 then (⟨ag2, l0, ae2⟩ : Dy) else ⟨ag3, l1, ae3⟩) k).ls.length (ints .u32 ((fun k => if k = 0 then (⟨ag2, l0, ae2⟩ : Dy) else ⟨ag3, l1, ae3⟩) k).ls) := by
    intro k hk w' hw
    have kw := hw.blk kU hgU
    have hbw : Below w.heap.size w w' := hBU.trans (hw.below (by have := hbU.size; omega) (by omega))
    have hc : k = 0 ∨ k = 1 := by omega
    rcases hc with rfl | rfl
    · refine ⟨⟨by rw [kw.cell]; rfl, by rw [kw.cell]; simp [hn0], by rw [kw.cell]; rfl⟩, ?_⟩
      simp only [if_true]
      rw [hn0]
      exact (hr0.below hbw).more hbw.size
    · refine ⟨⟨by rw [kw.cell]; rfl, by rw [kw.cell]; simp [hn1], by rw [kw.cell]; rfl⟩, ?_⟩
      simp only [Nat.one_ne_zero, if_false]
      rw [hn1]
      exact (hr1.below hbw).more hbw.size
  have hmy : ∀ k, k < 2 → mayd ((fun k => if k = 0 then (⟨ag2, l0, ae2⟩ : Dy) else ⟨ag3, l1, ae3⟩) k) = true := by
    intro k hk
    have hc : k = 0 ∨ k = 1 := by omega
    rcases hc with rfl | rfl
    · exact hm0
    · exact hm1
  have hlt2 : ∀ k, k < 2 → ∀ x ∈ ((fun k => if k = 0 then (⟨ag2, l0, ae2⟩ : Dy) else ⟨ag3, l1, ae3⟩) k).ls, x < 4294967296 := by
    intro k hk
    have hc : k = 0 ∨ k = 1 := by omega
    rcases hc with rfl | rfl
    · exact hb0
    · exact hb1
  have hDD := tdyads (w.heap.size + 1) w5.heap.size ([] ++ [((afr).toNat, 1)] ++ [((att).toNat, 1)] ++ [((aep).toNat, 2)] ++ [((anu).toNat, 3)] ++ [((aab).toNat, 3)]) (fun k => if k = 0 then (⟨ag2, l0, ae2⟩ : Dy) else ⟨ag3, l1, ae3⟩) (fun k => if k = 0 then aX2 else aX3) (fun k => if k = 0 then ac2 else ac3) U (hT.out.below hbU) (by simp [total, total_app, ptD_total]; omega) hrow hmy hlt2
  simp only [if_true, Nat.one_ne_zero, if_false] at hDD
  clear hrow
  refine hDD.mono ?_
  rintro en w6 ⟨rfl, hT1, hO1⟩
  replace hT := Lib.hid hT1
  replace hO := Lib.hid ((hO.out.trans (Only.of_below hbU)).trans hO1)
  have sw6 := hO1.size
  have sU := hbU.size
  clear a0 a12 a13 a14 a15 a16 a17
  clear hT1 hO1 hDD kU hbU hBU hgU ka
  obtain ⟨X, cc, kt, ho⟩ := hT.out
  have z0 := kt.cell 0
  simp only [List.getElem?_toArray, List.getElem?_cons_zero] at z0
  have gho := Lib.hid ho
  clear kt ho hT
  go_wp2
  go_ret
  exact ⟨X, cc, rfl, own_mono gho.out (by omega), hB.trans (hO.out.below (by omega) (by omega))⟩
set_option maxRecDepth 100000 in
set_option maxHeartbeats 16000000 in
theorem con4 {afr att aep anu aab : Int} {ag0 : Bool} {aX0 : Option Addr} {an0 ac0 : Nat} {ae0 : Int} {ag1 : Bool} {aX1 : Option Addr} {an1 ac1 : Nat} {ae1 : Int} {ag2 : Bool} {aX2 : Option Addr} {an2 ac2 : Nat} {ae2 : Int} {ag3 : Bool} {aX3 : Option Addr} {an3 ac3 : Nat} {ae3 : Int} {awa : Bool} {aD : Option Addr} {adn adc : Nat} {aeh : Bool} {ax1 ax2 : Int} {aL : Option Addr} {aln alc : Nat} (w : World) (hfr : 0 ≤ afr ∧ afr < 8) (htt : 0 ≤ att ∧ att < 8) (hep : 0 ≤ aep ∧ aep ≤ 65535) (hnu : 0 ≤ anu ∧ anu ≤ 1048575) (hab : 0 ≤ aab ∧ aab ≤ 1048575) : Calls Try.prog 26 #[.agg #[.int .u8 4, .int .i64 afr, .int .i64 att, .int .i64 aep, .int .i64 anu, .int .i64 aab, .bool ag0, .slice aX0 an0 ac0, .int .i64 ae0, .bool ag1, .slice aX1 an1 ac1, .int .i64 ae1, .bool ag2, .slice aX2 an2 ac2, .int .i64 ae2, .bool ag3, .slice aX3 an3 ac3, .int .i64 ae3, .bool awa, .slice aD adn adc, .bool aeh, .int .i64 ax1, .int .i64 ax2, .slice aL aln alc]] w fun en w' => ∃ X c, en = .returned (.slice X (total ([] ++ [((afr).toNat, 1)] ++ [((att).toNat, 1)] ++ [((aep).toNat, 2)] ++ [((anu).toNat, 3)] ++ [((aab).toNat, 3)])) c) ∧ w'.ownsRow w.heap.size 5 1 (.slice X (total ([] ++ [((afr).toNat, 1)] ++ [((att).toNat, 1)] ++ [((aep).toNat, 2)] ++ [((anu).toNat, 3)] ++ [((aab).toNat, 3)])) c) (total ([] ++ [((afr).toNat, 1)] ++ [((att).toNat, 1)] ++ [((aep).toNat, 2)] ++ [((anu).toNat, 3)] ++ [((aab).toNat, 3)])) (u8s (flat ([] ++ [((afr).toNat, 1)] ++ [((att).toNat, 1)] ++ [((aep).toNat, 2)] ++ [((anu).toNat, 3)] ++ [((aab).toNat, 3)]))) ∧ Below w.heap.size w w' := by
  obtain ⟨V, hV⟩ : ∃ V, V = (w.alloc (.cells #[.int .u8 4, .int .i64 afr, .int .i64 att, .int .i64 aep, .int .i64 anu, .int .i64 aab, .bool ag0, .slice aX0 an0 ac0, .int .i64 ae0, .bool ag1, .slice aX1 an1 ac1, .int .i64 ae1, .bool ag2, .slice aX2 an2 ac2, .int .i64 ae2, .bool ag3, .slice aX3 an3 ac3, .int .i64 ae3, .bool awa, .slice aD adn adc, .bool aeh, .int .i64 ax1, .int .i64 ax2, .slice aL aln alc] 31)).alloc (.cells #[.slice none 0 0] 92) := ⟨_, rfl⟩
  have hB : Below w.heap.size w V := by rw [hV]; exact ((Below.refl _ _).alloc (Nat.le_refl _) _).alloc (by simp) _
  have ka : Hid (Blk V w.heap.size 31 #[.int .u8 4, .int .i64 afr, .int .i64 att, .int .i64 aep, .int .i64 anu, .int .i64 aab, .bool ag0, .slice aX0 an0 ac0, .int .i64 ae0, .bool ag1, .slice aX1 an1 ac1, .int .i64 ae1, .bool ag2, .slice aX2 an2 ac2, .int .i64 ae2, .bool ag3, .slice aX3 an3 ac3, .int .i64 ae3, .bool awa, .slice aD adn adc, .bool aeh, .int .i64 ax1, .int .i64 ax2, .slice aL aln alc]) := Lib.hid (by rw [hV]; exact (Blk.new w _ _).alloc _)
  have hT : Hid (Txt V (w.heap.size + 1) []) := Lib.hid (by rw [hV]; simpa using Txt.new_ (w.alloc (.cells #[.int .u8 4, .int .i64 afr, .int .i64 att, .int .i64 aep, .int .i64 anu, .int .i64 aab, .bool ag0, .slice aX0 an0 ac0, .int .i64 ae0, .bool ag1, .slice aX1 an1 ac1, .int .i64 ae1, .bool ag2, .slice aX2 an2 ac2, .int .i64 ae2, .bool ag3, .slice aX3 an3 ac3, .int .i64 ae3, .bool awa, .slice aD adn adc, .bool aeh, .int .i64 ax1, .int .i64 ax2, .slice aL aln alc] 31)))
  have hO : Hid (Only (w.heap.size + 1) V V) := Lib.hid (Only.refl _ _)
  have hVs : V.heap.size = w.heap.size + 2 := by rw [hV]; simp
  go_enter Try.func26, Try.ntmps26
  go_upto_region 3 with (fail)
  rw [← hV]
  clear hV
  have a1 : V.cell? ⟨w.heap.size, 1, none⟩ = some (.int .i64 afr) := by rw [ka.out.cell]; rfl
  go_wp2_with fail
  refine (tnumI (w.heap.size + 1) ([]) 1 (afr) 1 (by omega) (by omega) (by omega) (by omega) rfl (by simp [total, total_app, ptD_total]) V hT.out).mono ?_
  rintro en w1 ⟨rfl, hT1, hO1⟩
  replace ka := Lib.hid (hO1.blk ka.out (by omega))
  replace hT := Lib.hid hT1
  replace hO := Lib.hid (hO.out.trans hO1)
  have sw1 := hO1.size
  clear a1
  clear hT1 hO1
  have a2 : w1.cell? ⟨w.heap.size, 2, none⟩ = some (.int .i64 att) := by rw [ka.out.cell]; rfl
  go_wp2_with fail
  refine (tnumI (w.heap.size + 1) ([] ++ [((afr).toNat, 1)]) 1 (att) 1 (by omega) (by omega) (by omega) (by omega) rfl (by simp [total, total_app, ptD_total]) w1 hT.out).mono ?_
  rintro en w2 ⟨rfl, hT1, hO1⟩
  replace ka := Lib.hid (hO1.blk ka.out (by omega))
  replace hT := Lib.hid hT1
  replace hO := Lib.hid (hO.out.trans hO1)
  have sw2 := hO1.size
  clear a2
  clear hT1 hO1
  have a3 : w2.cell? ⟨w.heap.size, 3, none⟩ = some (.int .i64 aep) := by rw [ka.out.cell]; rfl
  go_wp2_with fail
  refine (tnumI (w.heap.size + 1) ([] ++ [((afr).toNat, 1)] ++ [((att).toNat, 1)]) 2 (aep) 2 (by omega) (by omega) (by omega) (by omega) rfl (by simp [total, total_app, ptD_total]) w2 hT.out).mono ?_
  rintro en w3 ⟨rfl, hT1, hO1⟩
  replace ka := Lib.hid (hO1.blk ka.out (by omega))
  replace hT := Lib.hid hT1
  replace hO := Lib.hid (hO.out.trans hO1)
  have sw3 := hO1.size
  clear a3
  clear hT1 hO1
  have a4 : w3.cell? ⟨w.heap.size, 4, none⟩ = some (.int .i64 anu) := by rw [ka.out.cell]; rfl
  go_wp2_with fail
  refine (tnumI (w.heap.size + 1) ([] ++ [((afr).toNat, 1)] ++ [((att).toNat, 1)] ++ [((aep).toNat, 2)]) 3 (anu) 3 (by omega) (by omega) (by omega) (by omega) rfl (by simp [total, total_app, ptD_total]) w3 hT.out).mono ?_
  rintro en w4 ⟨rfl, hT1, hO1⟩
  replace ka := Lib.hid (hO1.blk ka.out (by omega))
  replace hT := Lib.hid hT1
  replace hO := Lib.hid (hO.out.trans hO1)
  have sw4 := hO1.size
  clear a4
  clear hT1 hO1
  have a0 : w4.cell? ⟨w.heap.size, 0, none⟩ = some (.int .u8 4) := by rw [ka.out.cell]; rfl
  have a5 : w4.cell? ⟨w.heap.size, 5, none⟩ = some (.int .i64 aab) := by rw [ka.out.cell]; rfl
  go_wp2_with fail
  refine (tnumI (w.heap.size + 1) ([] ++ [((afr).toNat, 1)] ++ [((att).toNat, 1)] ++ [((aep).toNat, 2)] ++ [((anu).toNat, 3)]) 3 (aab) 3 (by omega) (by omega) (by omega) (by omega) rfl (by simp [total, total_app, ptD_total]) w4 hT.out).mono ?_
  rintro en w5 ⟨rfl, hT1, hO1⟩
  replace ka := Lib.hid (hO1.blk ka.out (by omega))
  replace hT := Lib.hid hT1
  replace hO := Lib.hid (hO.out.trans hO1)
  have sw5 := hO1.size
  clear a0 a5
  clear hT1 hO1
  have a0 : w5.cell? ⟨w.heap.size, 0, none⟩ = some (.int .u8 4) := by rw [ka.out.cell]; rfl
  obtain ⟨X, cc, kt, ho⟩ := hT.out
  have z0 := kt.cell 0
  simp only [List.getElem?_toArray, List.getElem?_cons_zero] at z0
  have gho := Lib.hid ho
  clear kt ho hT
  go_wp2
  go_ret
  exact ⟨X, cc, rfl, own_mono gho.out (by omega), hB.trans (hO.out.below (by omega) (by omega))⟩
end Go.Proofs.Ytjmhefkmpfkpbaa
