/- Mail: mails compared: the ways -/
import Derived.Test.YtjmhefkmpfkpbaaPF
namespace Go.Proofs.Ytjmhefkmpfkpbaa
open Go.ChangeShapes Go.WideShapes Go.ChangeAt Go.RowKit
set_option linter.unusedSimpArgs false
set_option linter.unusedVariables false
set_option maxRecDepth 100000 in
set_option maxHeartbeats 16000000 in
theorem sww {akd afr att aep anu aab : Int} {ag0 : Bool} {aX0 : Option Addr} {an0 ac0 : Nat} {ae0 : Int} {ag1 : Bool} {aX1 : Option Addr} {an1 ac1 : Nat} {ae1 : Int} {ag2 : Bool} {aX2 : Option Addr} {an2 ac2 : Nat} {ae2 : Int} {ag3 : Bool} {aX3 : Option Addr} {an3 ac3 : Nat} {ae3 : Int} {awa : Bool} {aD : Option Addr} {adn adc : Nat} {aeh : Bool} {ax1 ax2 : Int} {aL : Option Addr} {aln alc : Nat} {bkd bfr btt bep bnu bab : Int} {bg0 : Bool} {bX0 : Option Addr} {bn0 bc0 : Nat} {be0 : Int} {bg1 : Bool} {bX1 : Option Addr} {bn1 bc1 : Nat} {be1 : Int} {bg2 : Bool} {bX2 : Option Addr} {bn2 bc2 : Nat} {be2 : Int} {bg3 : Bool} {bX3 : Option Addr} {bn3 bc3 : Nat} {be3 : Int} {bwa : Bool} {bD : Option Addr} {bdn bdc : Nat} {beh : Bool} {bx1 bx2 : Int} {bL : Option Addr} {bln blc : Nat} (w : World) (d0 : (akd == bkd) = true) (d1 : (afr == bfr) = true) (d2 : (att == btt) = true) (d3 : (aep == bep) = true) (d4 : (anu == bnu) = true) (d5 : (aab == bab) = true) (hm : ∀ w', Below w.heap.size w w' → Calls Try.prog 27 #[.agg #[.bool ag0, .slice aX0 an0 ac0, .int .i64 ae0, .bool ag1, .slice aX1 an1 ac1, .int .i64 ae1, .bool ag2, .slice aX2 an2 ac2, .int .i64 ae2, .bool ag3, .slice aX3 an3 ac3, .int .i64 ae3], .agg #[.bool bg0, .slice bX0 bn0 bc0, .int .i64 be0, .bool bg1, .slice bX1 bn1 bc1, .int .i64 be1, .bool bg2, .slice bX2 bn2 bc2, .int .i64 be2, .bool bg3, .slice bX3 bn3 bc3, .int .i64 be3]] w' fun en w'' => en = .returned (.bool true) ∧ Below w'.heap.size w' w'') (dw : (awa == bwa) = false) : Calls Try.prog 11 #[.agg #[.int .u8 akd, .int .i64 afr, .int .i64 att, .int .i64 aep, .int .i64 anu, .int .i64 aab, .bool ag0, .slice aX0 an0 ac0, .int .i64 ae0, .bool ag1, .slice aX1 an1 ac1, .int .i64 ae1, .bool ag2, .slice aX2 an2 ac2, .int .i64 ae2, .bool ag3, .slice aX3 an3 ac3, .int .i64 ae3, .bool awa, .slice aD adn adc, .bool aeh, .int .i64 ax1, .int .i64 ax2, .slice aL aln alc], .agg #[.int .u8 bkd, .int .i64 bfr, .int .i64 btt, .int .i64 bep, .int .i64 bnu, .int .i64 bab, .bool bg0, .slice bX0 bn0 bc0, .int .i64 be0, .bool bg1, .slice bX1 bn1 bc1, .int .i64 be1, .bool bg2, .slice bX2 bn2 bc2, .int .i64 be2, .bool bg3, .slice bX3 bn3 bc3, .int .i64 be3, .bool bwa, .slice bD bdn bdc, .bool beh, .int .i64 bx1, .int .i64 bx2, .slice bL bln blc]] w fun en w' => en = .returned (.bool false) ∧ Below w.heap.size w w' := by
  obtain ⟨V, hV⟩ : ∃ V, V = (w.alloc (.cells #[.int .u8 akd, .int .i64 afr, .int .i64 att, .int .i64 aep, .int .i64 anu, .int .i64 aab, .bool ag0, .slice aX0 an0 ac0, .int .i64 ae0, .bool ag1, .slice aX1 an1 ac1, .int .i64 ae1, .bool ag2, .slice aX2 an2 ac2, .int .i64 ae2, .bool ag3, .slice aX3 an3 ac3, .int .i64 ae3, .bool awa, .slice aD adn adc, .bool aeh, .int .i64 ax1, .int .i64 ax2, .slice aL aln alc] 31)).alloc (.cells #[.int .u8 bkd, .int .i64 bfr, .int .i64 btt, .int .i64 bep, .int .i64 bnu, .int .i64 bab, .bool bg0, .slice bX0 bn0 bc0, .int .i64 be0, .bool bg1, .slice bX1 bn1 bc1, .int .i64 be1, .bool bg2, .slice bX2 bn2 bc2, .int .i64 be2, .bool bg3, .slice bX3 bn3 bc3, .int .i64 be3, .bool bwa, .slice bD bdn bdc, .bool beh, .int .i64 bx1, .int .i64 bx2, .slice bL bln blc] 31) := ⟨_, rfl⟩
  have hB : Below w.heap.size w V := by rw [hV]; exact ((Below.refl _ _).alloc (Nat.le_refl _) _).alloc (by simp) _
  have ka : Blk V w.heap.size 31 #[.int .u8 akd, .int .i64 afr, .int .i64 att, .int .i64 aep, .int .i64 anu, .int .i64 aab, .bool ag0, .slice aX0 an0 ac0, .int .i64 ae0, .bool ag1, .slice aX1 an1 ac1, .int .i64 ae1, .bool ag2, .slice aX2 an2 ac2, .int .i64 ae2, .bool ag3, .slice aX3 an3 ac3, .int .i64 ae3, .bool awa, .slice aD adn adc, .bool aeh, .int .i64 ax1, .int .i64 ax2, .slice aL aln alc] := by rw [hV]; exact (Blk.new w _ _).alloc _
  have kb : Blk V (w.heap.size + 1) 31 #[.int .u8 bkd, .int .i64 bfr, .int .i64 btt, .int .i64 bep, .int .i64 bnu, .int .i64 bab, .bool bg0, .slice bX0 bn0 bc0, .int .i64 be0, .bool bg1, .slice bX1 bn1 bc1, .int .i64 be1, .bool bg2, .slice bX2 bn2 bc2, .int .i64 be2, .bool bg3, .slice bX3 bn3 bc3, .int .i64 be3, .bool bwa, .slice bD bdn bdc, .bool beh, .int .i64 bx1, .int .i64 bx2, .slice bL bln blc] := by rw [hV]; simpa using Blk.new (w.alloc (.cells #[.int .u8 akd, .int .i64 afr, .int .i64 att, .int .i64 aep, .int .i64 anu, .int .i64 aab, .bool ag0, .slice aX0 an0 ac0, .int .i64 ae0, .bool ag1, .slice aX1 an1 ac1, .int .i64 ae1, .bool ag2, .slice aX2 an2 ac2, .int .i64 ae2, .bool ag3, .slice aX3 an3 ac3, .int .i64 ae3, .bool awa, .slice aD adn adc, .bool aeh, .int .i64 ax1, .int .i64 ax2, .slice aL aln alc] 31)) 31 #[.int .u8 bkd, .int .i64 bfr, .int .i64 btt, .int .i64 bep, .int .i64 bnu, .int .i64 bab, .bool bg0, .slice bX0 bn0 bc0, .int .i64 be0, .bool bg1, .slice bX1 bn1 bc1, .int .i64 be1, .bool bg2, .slice bX2 bn2 bc2, .int .i64 be2, .bool bg3, .slice bX3 bn3 bc3, .int .i64 be3, .bool bwa, .slice bD bdn bdc, .bool beh, .int .i64 bx1, .int .i64 bx2, .slice bL bln blc]
  have a0 : V.cell? ⟨w.heap.size, 0, none⟩ = some (.int .u8 akd) := by rw [ka.cell]; rfl
  have a1 : V.cell? ⟨w.heap.size, 1, none⟩ = some (.int .i64 afr) := by rw [ka.cell]; rfl
  have a2 : V.cell? ⟨w.heap.size, 2, none⟩ = some (.int .i64 att) := by rw [ka.cell]; rfl
  have a3 : V.cell? ⟨w.heap.size, 3, none⟩ = some (.int .i64 aep) := by rw [ka.cell]; rfl
  have a4 : V.cell? ⟨w.heap.size, 4, none⟩ = some (.int .i64 anu) := by rw [ka.cell]; rfl
  have a5 : V.cell? ⟨w.heap.size, 5, none⟩ = some (.int .i64 aab) := by rw [ka.cell]; rfl
  have a6 : V.cell? ⟨w.heap.size, 6, none⟩ = some (.bool ag0) := by rw [ka.cell]; rfl
  have a7 : V.cell? ⟨w.heap.size, 7, none⟩ = some (.slice aX0 an0 ac0) := by rw [ka.cell]; rfl
  have a8 : V.cell? ⟨w.heap.size, 8, none⟩ = some (.int .i64 ae0) := by rw [ka.cell]; rfl
  have a9 : V.cell? ⟨w.heap.size, 9, none⟩ = some (.bool ag1) := by rw [ka.cell]; rfl
  have a10 : V.cell? ⟨w.heap.size, 10, none⟩ = some (.slice aX1 an1 ac1) := by rw [ka.cell]; rfl
  have a11 : V.cell? ⟨w.heap.size, 11, none⟩ = some (.int .i64 ae1) := by rw [ka.cell]; rfl
  have a12 : V.cell? ⟨w.heap.size, 12, none⟩ = some (.bool ag2) := by rw [ka.cell]; rfl
  have a13 : V.cell? ⟨w.heap.size, 13, none⟩ = some (.slice aX2 an2 ac2) := by rw [ka.cell]; rfl
  have a14 : V.cell? ⟨w.heap.size, 14, none⟩ = some (.int .i64 ae2) := by rw [ka.cell]; rfl
  have a15 : V.cell? ⟨w.heap.size, 15, none⟩ = some (.bool ag3) := by rw [ka.cell]; rfl
  have a16 : V.cell? ⟨w.heap.size, 16, none⟩ = some (.slice aX3 an3 ac3) := by rw [ka.cell]; rfl
  have a17 : V.cell? ⟨w.heap.size, 17, none⟩ = some (.int .i64 ae3) := by rw [ka.cell]; rfl
  have b0 : V.cell? ⟨w.heap.size + 1, 0, none⟩ = some (.int .u8 bkd) := by rw [kb.cell]; rfl
  have b1 : V.cell? ⟨w.heap.size + 1, 1, none⟩ = some (.int .i64 bfr) := by rw [kb.cell]; rfl
  have b2 : V.cell? ⟨w.heap.size + 1, 2, none⟩ = some (.int .i64 btt) := by rw [kb.cell]; rfl
  have b3 : V.cell? ⟨w.heap.size + 1, 3, none⟩ = some (.int .i64 bep) := by rw [kb.cell]; rfl
  have b4 : V.cell? ⟨w.heap.size + 1, 4, none⟩ = some (.int .i64 bnu) := by rw [kb.cell]; rfl
  have b5 : V.cell? ⟨w.heap.size + 1, 5, none⟩ = some (.int .i64 bab) := by rw [kb.cell]; rfl
  have b6 : V.cell? ⟨w.heap.size + 1, 6, none⟩ = some (.bool bg0) := by rw [kb.cell]; rfl
  have b7 : V.cell? ⟨w.heap.size + 1, 7, none⟩ = some (.slice bX0 bn0 bc0) := by rw [kb.cell]; rfl
  have b8 : V.cell? ⟨w.heap.size + 1, 8, none⟩ = some (.int .i64 be0) := by rw [kb.cell]; rfl
  have b9 : V.cell? ⟨w.heap.size + 1, 9, none⟩ = some (.bool bg1) := by rw [kb.cell]; rfl
  have b10 : V.cell? ⟨w.heap.size + 1, 10, none⟩ = some (.slice bX1 bn1 bc1) := by rw [kb.cell]; rfl
  have b11 : V.cell? ⟨w.heap.size + 1, 11, none⟩ = some (.int .i64 be1) := by rw [kb.cell]; rfl
  have b12 : V.cell? ⟨w.heap.size + 1, 12, none⟩ = some (.bool bg2) := by rw [kb.cell]; rfl
  have b13 : V.cell? ⟨w.heap.size + 1, 13, none⟩ = some (.slice bX2 bn2 bc2) := by rw [kb.cell]; rfl
  have b14 : V.cell? ⟨w.heap.size + 1, 14, none⟩ = some (.int .i64 be2) := by rw [kb.cell]; rfl
  have b15 : V.cell? ⟨w.heap.size + 1, 15, none⟩ = some (.bool bg3) := by rw [kb.cell]; rfl
  have b16 : V.cell? ⟨w.heap.size + 1, 16, none⟩ = some (.slice bX3 bn3 bc3) := by rw [kb.cell]; rfl
  have b17 : V.cell? ⟨w.heap.size + 1, 17, none⟩ = some (.int .i64 be3) := by rw [kb.cell]; rfl
  have gka := Lib.hid ka
  have gkb := Lib.hid kb
  have hs0 := hB.size
  clear ka kb
  go_enter Try.func11, Try.ntmps11
  go_wp2_with fail
  rw [← hV]
  clear hV
  go_wp2_with fail
  refine (hm _ hB).mono ?_
  rintro en w2 ⟨rfl, hb0⟩
  replace gka := Lib.hid (gka.out.below hb0 gka.out.lt)
  replace gkb := Lib.hid (gkb.out.below hb0 gkb.out.lt)
  have hB0 := hB.trans (hb0.mono hB.size)
  clear a0 b0 a1 b1 a2 b2 a3 b3 a4 b4 a5 b5 a6 b6 a7 b7 a8 b8 a9 b9 a10 b10 a11 b11 a12 b12 a13 b13 a14 b14 a15 b15 a16 b16 a17 b17 hb0 hB
  have a18 : w2.cell? ⟨w.heap.size, 18, none⟩ = some (.bool awa) := by rw [gka.out.cell]; rfl
  have b18 : w2.cell? ⟨w.heap.size + 1, 18, none⟩ = some (.bool bwa) := by rw [gkb.out.cell]; rfl
  go_wp2
  go_ret
  exact ⟨rfl, hB0⟩
set_option maxRecDepth 100000 in
set_option maxHeartbeats 16000000 in
theorem swd {akd afr att aep anu aab : Int} {ag0 : Bool} {aX0 : Option Addr} {an0 ac0 : Nat} {ae0 : Int} {ag1 : Bool} {aX1 : Option Addr} {an1 ac1 : Nat} {ae1 : Int} {ag2 : Bool} {aX2 : Option Addr} {an2 ac2 : Nat} {ae2 : Int} {ag3 : Bool} {aX3 : Option Addr} {an3 ac3 : Nat} {ae3 : Int} {awa : Bool} {aD : Option Addr} {adn adc : Nat} {aeh : Bool} {ax1 ax2 : Int} {aL : Option Addr} {aln alc : Nat} {bkd bfr btt bep bnu bab : Int} {bg0 : Bool} {bX0 : Option Addr} {bn0 bc0 : Nat} {be0 : Int} {bg1 : Bool} {bX1 : Option Addr} {bn1 bc1 : Nat} {be1 : Int} {bg2 : Bool} {bX2 : Option Addr} {bn2 bc2 : Nat} {be2 : Int} {bg3 : Bool} {bX3 : Option Addr} {bn3 bc3 : Nat} {be3 : Int} {bwa : Bool} {bD : Option Addr} {bdn bdc : Nat} {beh : Bool} {bx1 bx2 : Int} {bL : Option Addr} {bln blc : Nat} (w : World) (d0 : (akd == bkd) = true) (d1 : (afr == bfr) = true) (d2 : (att == btt) = true) (d3 : (aep == bep) = true) (d4 : (anu == bnu) = true) (d5 : (aab == bab) = true) (hm : ∀ w', Below w.heap.size w w' → Calls Try.prog 27 #[.agg #[.bool ag0, .slice aX0 an0 ac0, .int .i64 ae0, .bool ag1, .slice aX1 an1 ac1, .int .i64 ae1, .bool ag2, .slice aX2 an2 ac2, .int .i64 ae2, .bool ag3, .slice aX3 an3 ac3, .int .i64 ae3], .agg #[.bool bg0, .slice bX0 bn0 bc0, .int .i64 be0, .bool bg1, .slice bX1 bn1 bc1, .int .i64 be1, .bool bg2, .slice bX2 bn2 bc2, .int .i64 be2, .bool bg3, .slice bX3 bn3 bc3, .int .i64 be3]] w' fun en w'' => en = .returned (.bool true) ∧ Below w'.heap.size w' w'') (dw : (awa == bwa) = true) (hd : ∀ w', Below w.heap.size w w' → Calls Try.prog 28 #[.slice aD adn adc, .slice bD bdn bdc] w' fun en w'' => en = .returned (.bool false) ∧ Below w'.heap.size w' w'') : Calls Try.prog 11 #[.agg #[.int .u8 akd, .int .i64 afr, .int .i64 att, .int .i64 aep, .int .i64 anu, .int .i64 aab, .bool ag0, .slice aX0 an0 ac0, .int .i64 ae0, .bool ag1, .slice aX1 an1 ac1, .int .i64 ae1, .bool ag2, .slice aX2 an2 ac2, .int .i64 ae2, .bool ag3, .slice aX3 an3 ac3, .int .i64 ae3, .bool awa, .slice aD adn adc, .bool aeh, .int .i64 ax1, .int .i64 ax2, .slice aL aln alc], .agg #[.int .u8 bkd, .int .i64 bfr, .int .i64 btt, .int .i64 bep, .int .i64 bnu, .int .i64 bab, .bool bg0, .slice bX0 bn0 bc0, .int .i64 be0, .bool bg1, .slice bX1 bn1 bc1, .int .i64 be1, .bool bg2, .slice bX2 bn2 bc2, .int .i64 be2, .bool bg3, .slice bX3 bn3 bc3, .int .i64 be3, .bool bwa, .slice bD bdn bdc, .bool beh, .int .i64 bx1, .int .i64 bx2, .slice bL bln blc]] w fun en w' => en = .returned (.bool false) ∧ Below w.heap.size w w' := by
  obtain ⟨V, hV⟩ : ∃ V, V = (w.alloc (.cells #[.int .u8 akd, .int .i64 afr, .int .i64 att, .int .i64 aep, .int .i64 anu, .int .i64 aab, .bool ag0, .slice aX0 an0 ac0, .int .i64 ae0, .bool ag1, .slice aX1 an1 ac1, .int .i64 ae1, .bool ag2, .slice aX2 an2 ac2, .int .i64 ae2, .bool ag3, .slice aX3 an3 ac3, .int .i64 ae3, .bool awa, .slice aD adn adc, .bool aeh, .int .i64 ax1, .int .i64 ax2, .slice aL aln alc] 31)).alloc (.cells #[.int .u8 bkd, .int .i64 bfr, .int .i64 btt, .int .i64 bep, .int .i64 bnu, .int .i64 bab, .bool bg0, .slice bX0 bn0 bc0, .int .i64 be0, .bool bg1, .slice bX1 bn1 bc1, .int .i64 be1, .bool bg2, .slice bX2 bn2 bc2, .int .i64 be2, .bool bg3, .slice bX3 bn3 bc3, .int .i64 be3, .bool bwa, .slice bD bdn bdc, .bool beh, .int .i64 bx1, .int .i64 bx2, .slice bL bln blc] 31) := ⟨_, rfl⟩
  have hB : Below w.heap.size w V := by rw [hV]; exact ((Below.refl _ _).alloc (Nat.le_refl _) _).alloc (by simp) _
  have ka : Blk V w.heap.size 31 #[.int .u8 akd, .int .i64 afr, .int .i64 att, .int .i64 aep, .int .i64 anu, .int .i64 aab, .bool ag0, .slice aX0 an0 ac0, .int .i64 ae0, .bool ag1, .slice aX1 an1 ac1, .int .i64 ae1, .bool ag2, .slice aX2 an2 ac2, .int .i64 ae2, .bool ag3, .slice aX3 an3 ac3, .int .i64 ae3, .bool awa, .slice aD adn adc, .bool aeh, .int .i64 ax1, .int .i64 ax2, .slice aL aln alc] := by rw [hV]; exact (Blk.new w _ _).alloc _
  have kb : Blk V (w.heap.size + 1) 31 #[.int .u8 bkd, .int .i64 bfr, .int .i64 btt, .int .i64 bep, .int .i64 bnu, .int .i64 bab, .bool bg0, .slice bX0 bn0 bc0, .int .i64 be0, .bool bg1, .slice bX1 bn1 bc1, .int .i64 be1, .bool bg2, .slice bX2 bn2 bc2, .int .i64 be2, .bool bg3, .slice bX3 bn3 bc3, .int .i64 be3, .bool bwa, .slice bD bdn bdc, .bool beh, .int .i64 bx1, .int .i64 bx2, .slice bL bln blc] := by rw [hV]; simpa using Blk.new (w.alloc (.cells #[.int .u8 akd, .int .i64 afr, .int .i64 att, .int .i64 aep, .int .i64 anu, .int .i64 aab, .bool ag0, .slice aX0 an0 ac0, .int .i64 ae0, .bool ag1, .slice aX1 an1 ac1, .int .i64 ae1, .bool ag2, .slice aX2 an2 ac2, .int .i64 ae2, .bool ag3, .slice aX3 an3 ac3, .int .i64 ae3, .bool awa, .slice aD adn adc, .bool aeh, .int .i64 ax1, .int .i64 ax2, .slice aL aln alc] 31)) 31 #[.int .u8 bkd, .int .i64 bfr, .int .i64 btt, .int .i64 bep, .int .i64 bnu, .int .i64 bab, .bool bg0, .slice bX0 bn0 bc0, .int .i64 be0, .bool bg1, .slice bX1 bn1 bc1, .int .i64 be1, .bool bg2, .slice bX2 bn2 bc2, .int .i64 be2, .bool bg3, .slice bX3 bn3 bc3, .int .i64 be3, .bool bwa, .slice bD bdn bdc, .bool beh, .int .i64 bx1, .int .i64 bx2, .slice bL bln blc]
  have a0 : V.cell? ⟨w.heap.size, 0, none⟩ = some (.int .u8 akd) := by rw [ka.cell]; rfl
  have a1 : V.cell? ⟨w.heap.size, 1, none⟩ = some (.int .i64 afr) := by rw [ka.cell]; rfl
  have a2 : V.cell? ⟨w.heap.size, 2, none⟩ = some (.int .i64 att) := by rw [ka.cell]; rfl
  have a3 : V.cell? ⟨w.heap.size, 3, none⟩ = some (.int .i64 aep) := by rw [ka.cell]; rfl
  have a4 : V.cell? ⟨w.heap.size, 4, none⟩ = some (.int .i64 anu) := by rw [ka.cell]; rfl
  have a5 : V.cell? ⟨w.heap.size, 5, none⟩ = some (.int .i64 aab) := by rw [ka.cell]; rfl
  have a6 : V.cell? ⟨w.heap.size, 6, none⟩ = some (.bool ag0) := by rw [ka.cell]; rfl
  have a7 : V.cell? ⟨w.heap.size, 7, none⟩ = some (.slice aX0 an0 ac0) := by rw [ka.cell]; rfl
  have a8 : V.cell? ⟨w.heap.size, 8, none⟩ = some (.int .i64 ae0) := by rw [ka.cell]; rfl
  have a9 : V.cell? ⟨w.heap.size, 9, none⟩ = some (.bool ag1) := by rw [ka.cell]; rfl
  have a10 : V.cell? ⟨w.heap.size, 10, none⟩ = some (.slice aX1 an1 ac1) := by rw [ka.cell]; rfl
  have a11 : V.cell? ⟨w.heap.size, 11, none⟩ = some (.int .i64 ae1) := by rw [ka.cell]; rfl
  have a12 : V.cell? ⟨w.heap.size, 12, none⟩ = some (.bool ag2) := by rw [ka.cell]; rfl
  have a13 : V.cell? ⟨w.heap.size, 13, none⟩ = some (.slice aX2 an2 ac2) := by rw [ka.cell]; rfl
  have a14 : V.cell? ⟨w.heap.size, 14, none⟩ = some (.int .i64 ae2) := by rw [ka.cell]; rfl
  have a15 : V.cell? ⟨w.heap.size, 15, none⟩ = some (.bool ag3) := by rw [ka.cell]; rfl
  have a16 : V.cell? ⟨w.heap.size, 16, none⟩ = some (.slice aX3 an3 ac3) := by rw [ka.cell]; rfl
  have a17 : V.cell? ⟨w.heap.size, 17, none⟩ = some (.int .i64 ae3) := by rw [ka.cell]; rfl
  have b0 : V.cell? ⟨w.heap.size + 1, 0, none⟩ = some (.int .u8 bkd) := by rw [kb.cell]; rfl
  have b1 : V.cell? ⟨w.heap.size + 1, 1, none⟩ = some (.int .i64 bfr) := by rw [kb.cell]; rfl
  have b2 : V.cell? ⟨w.heap.size + 1, 2, none⟩ = some (.int .i64 btt) := by rw [kb.cell]; rfl
  have b3 : V.cell? ⟨w.heap.size + 1, 3, none⟩ = some (.int .i64 bep) := by rw [kb.cell]; rfl
  have b4 : V.cell? ⟨w.heap.size + 1, 4, none⟩ = some (.int .i64 bnu) := by rw [kb.cell]; rfl
  have b5 : V.cell? ⟨w.heap.size + 1, 5, none⟩ = some (.int .i64 bab) := by rw [kb.cell]; rfl
  have b6 : V.cell? ⟨w.heap.size + 1, 6, none⟩ = some (.bool bg0) := by rw [kb.cell]; rfl
  have b7 : V.cell? ⟨w.heap.size + 1, 7, none⟩ = some (.slice bX0 bn0 bc0) := by rw [kb.cell]; rfl
  have b8 : V.cell? ⟨w.heap.size + 1, 8, none⟩ = some (.int .i64 be0) := by rw [kb.cell]; rfl
  have b9 : V.cell? ⟨w.heap.size + 1, 9, none⟩ = some (.bool bg1) := by rw [kb.cell]; rfl
  have b10 : V.cell? ⟨w.heap.size + 1, 10, none⟩ = some (.slice bX1 bn1 bc1) := by rw [kb.cell]; rfl
  have b11 : V.cell? ⟨w.heap.size + 1, 11, none⟩ = some (.int .i64 be1) := by rw [kb.cell]; rfl
  have b12 : V.cell? ⟨w.heap.size + 1, 12, none⟩ = some (.bool bg2) := by rw [kb.cell]; rfl
  have b13 : V.cell? ⟨w.heap.size + 1, 13, none⟩ = some (.slice bX2 bn2 bc2) := by rw [kb.cell]; rfl
  have b14 : V.cell? ⟨w.heap.size + 1, 14, none⟩ = some (.int .i64 be2) := by rw [kb.cell]; rfl
  have b15 : V.cell? ⟨w.heap.size + 1, 15, none⟩ = some (.bool bg3) := by rw [kb.cell]; rfl
  have b16 : V.cell? ⟨w.heap.size + 1, 16, none⟩ = some (.slice bX3 bn3 bc3) := by rw [kb.cell]; rfl
  have b17 : V.cell? ⟨w.heap.size + 1, 17, none⟩ = some (.int .i64 be3) := by rw [kb.cell]; rfl
  have gka := Lib.hid ka
  have gkb := Lib.hid kb
  have hs0 := hB.size
  clear ka kb
  go_enter Try.func11, Try.ntmps11
  go_wp2_with fail
  rw [← hV]
  clear hV
  go_wp2_with fail
  refine (hm _ hB).mono ?_
  rintro en w2 ⟨rfl, hb0⟩
  replace gka := Lib.hid (gka.out.below hb0 gka.out.lt)
  replace gkb := Lib.hid (gkb.out.below hb0 gkb.out.lt)
  have hB0 := hB.trans (hb0.mono hB.size)
  clear a0 b0 a1 b1 a2 b2 a3 b3 a4 b4 a5 b5 a6 b6 a7 b7 a8 b8 a9 b9 a10 b10 a11 b11 a12 b12 a13 b13 a14 b14 a15 b15 a16 b16 a17 b17 hb0 hB
  have a18 : w2.cell? ⟨w.heap.size, 18, none⟩ = some (.bool awa) := by rw [gka.out.cell]; rfl
  have b18 : w2.cell? ⟨w.heap.size + 1, 18, none⟩ = some (.bool bwa) := by rw [gkb.out.cell]; rfl
  have a19 : w2.cell? ⟨w.heap.size, 19, none⟩ = some (.slice aD adn adc) := by rw [gka.out.cell]; rfl
  have b19 : w2.cell? ⟨w.heap.size + 1, 19, none⟩ = some (.slice bD bdn bdc) := by rw [gkb.out.cell]; rfl
  go_wp2_with fail
  refine (hd _ hB0).mono ?_
  rintro en w3 ⟨rfl, hb1⟩
  replace gka := Lib.hid (gka.out.below hb1 gka.out.lt)
  replace gkb := Lib.hid (gkb.out.below hb1 gkb.out.lt)
  have hB1 := hB0.trans (hb1.mono hB0.size)
  clear a18 b18 a19 b19 hb1 hB0
  go_wp2
  go_ret
  exact ⟨rfl, hB1⟩
set_option maxRecDepth 100000 in
set_option maxHeartbeats 16000000 in
theorem swe0 {akd afr att aep anu aab : Int} {ag0 : Bool} {aX0 : Option Addr} {an0 ac0 : Nat} {ae0 : Int} {ag1 : Bool} {aX1 : Option Addr} {an1 ac1 : Nat} {ae1 : Int} {ag2 : Bool} {aX2 : Option Addr} {an2 ac2 : Nat} {ae2 : Int} {ag3 : Bool} {aX3 : Option Addr} {an3 ac3 : Nat} {ae3 : Int} {awa : Bool} {aD : Option Addr} {adn adc : Nat} {aeh : Bool} {ax1 ax2 : Int} {aL : Option Addr} {aln alc : Nat} {bkd bfr btt bep bnu bab : Int} {bg0 : Bool} {bX0 : Option Addr} {bn0 bc0 : Nat} {be0 : Int} {bg1 : Bool} {bX1 : Option Addr} {bn1 bc1 : Nat} {be1 : Int} {bg2 : Bool} {bX2 : Option Addr} {bn2 bc2 : Nat} {be2 : Int} {bg3 : Bool} {bX3 : Option Addr} {bn3 bc3 : Nat} {be3 : Int} {bwa : Bool} {bD : Option Addr} {bdn bdc : Nat} {beh : Bool} {bx1 bx2 : Int} {bL : Option Addr} {bln blc : Nat} (w : World) (d0 : (akd == bkd) = true) (d1 : (afr == bfr) = true) (d2 : (att == btt) = true) (d3 : (aep == bep) = true) (d4 : (anu == bnu) = true) (d5 : (aab == bab) = true) (hm : ∀ w', Below w.heap.size w w' → Calls Try.prog 27 #[.agg #[.bool ag0, .slice aX0 an0 ac0, .int .i64 ae0, .bool ag1, .slice aX1 an1 ac1, .int .i64 ae1, .bool ag2, .slice aX2 an2 ac2, .int .i64 ae2, .bool ag3, .slice aX3 an3 ac3, .int .i64 ae3], .agg #[.bool bg0, .slice bX0 bn0 bc0, .int .i64 be0, .bool bg1, .slice bX1 bn1 bc1, .int .i64 be1, .bool bg2, .slice bX2 bn2 bc2, .int .i64 be2, .bool bg3, .slice bX3 bn3 bc3, .int .i64 be3]] w' fun en w'' => en = .returned (.bool true) ∧ Below w'.heap.size w' w'') (dw : (awa == bwa) = true) (hd : ∀ w', Below w.heap.size w w' → Calls Try.prog 28 #[.slice aD adn adc, .slice bD bdn bdc] w' fun en w'' => en = .returned (.bool true) ∧ Below w'.heap.size w' w'') (y0 : (aeh == beh) = false) : Calls Try.prog 11 #[.agg #[.int .u8 akd, .int .i64 afr, .int .i64 att, .int .i64 aep, .int .i64 anu, .int .i64 aab, .bool ag0, .slice aX0 an0 ac0, .int .i64 ae0, .bool ag1, .slice aX1 an1 ac1, .int .i64 ae1, .bool ag2, .slice aX2 an2 ac2, .int .i64 ae2, .bool ag3, .slice aX3 an3 ac3, .int .i64 ae3, .bool awa, .slice aD adn adc, .bool aeh, .int .i64 ax1, .int .i64 ax2, .slice aL aln alc], .agg #[.int .u8 bkd, .int .i64 bfr, .int .i64 btt, .int .i64 bep, .int .i64 bnu, .int .i64 bab, .bool bg0, .slice bX0 bn0 bc0, .int .i64 be0, .bool bg1, .slice bX1 bn1 bc1, .int .i64 be1, .bool bg2, .slice bX2 bn2 bc2, .int .i64 be2, .bool bg3, .slice bX3 bn3 bc3, .int .i64 be3, .bool bwa, .slice bD bdn bdc, .bool beh, .int .i64 bx1, .int .i64 bx2, .slice bL bln blc]] w fun en w' => en = .returned (.bool false) ∧ Below w.heap.size w w' := by
  obtain ⟨V, hV⟩ : ∃ V, V = (w.alloc (.cells #[.int .u8 akd, .int .i64 afr, .int .i64 att, .int .i64 aep, .int .i64 anu, .int .i64 aab, .bool ag0, .slice aX0 an0 ac0, .int .i64 ae0, .bool ag1, .slice aX1 an1 ac1, .int .i64 ae1, .bool ag2, .slice aX2 an2 ac2, .int .i64 ae2, .bool ag3, .slice aX3 an3 ac3, .int .i64 ae3, .bool awa, .slice aD adn adc, .bool aeh, .int .i64 ax1, .int .i64 ax2, .slice aL aln alc] 31)).alloc (.cells #[.int .u8 bkd, .int .i64 bfr, .int .i64 btt, .int .i64 bep, .int .i64 bnu, .int .i64 bab, .bool bg0, .slice bX0 bn0 bc0, .int .i64 be0, .bool bg1, .slice bX1 bn1 bc1, .int .i64 be1, .bool bg2, .slice bX2 bn2 bc2, .int .i64 be2, .bool bg3, .slice bX3 bn3 bc3, .int .i64 be3, .bool bwa, .slice bD bdn bdc, .bool beh, .int .i64 bx1, .int .i64 bx2, .slice bL bln blc] 31) := ⟨_, rfl⟩
  have hB : Below w.heap.size w V := by rw [hV]; exact ((Below.refl _ _).alloc (Nat.le_refl _) _).alloc (by simp) _
  have ka : Blk V w.heap.size 31 #[.int .u8 akd, .int .i64 afr, .int .i64 att, .int .i64 aep, .int .i64 anu, .int .i64 aab, .bool ag0, .slice aX0 an0 ac0, .int .i64 ae0, .bool ag1, .slice aX1 an1 ac1, .int .i64 ae1, .bool ag2, .slice aX2 an2 ac2, .int .i64 ae2, .bool ag3, .slice aX3 an3 ac3, .int .i64 ae3, .bool awa, .slice aD adn adc, .bool aeh, .int .i64 ax1, .int .i64 ax2, .slice aL aln alc] := by rw [hV]; exact (Blk.new w _ _).alloc _
  have kb : Blk V (w.heap.size + 1) 31 #[.int .u8 bkd, .int .i64 bfr, .int .i64 btt, .int .i64 bep, .int .i64 bnu, .int .i64 bab, .bool bg0, .slice bX0 bn0 bc0, .int .i64 be0, .bool bg1, .slice bX1 bn1 bc1, .int .i64 be1, .bool bg2, .slice bX2 bn2 bc2, .int .i64 be2, .bool bg3, .slice bX3 bn3 bc3, .int .i64 be3, .bool bwa, .slice bD bdn bdc, .bool beh, .int .i64 bx1, .int .i64 bx2, .slice bL bln blc] := by rw [hV]; simpa using Blk.new (w.alloc (.cells #[.int .u8 akd, .int .i64 afr, .int .i64 att, .int .i64 aep, .int .i64 anu, .int .i64 aab, .bool ag0, .slice aX0 an0 ac0, .int .i64 ae0, .bool ag1, .slice aX1 an1 ac1, .int .i64 ae1, .bool ag2, .slice aX2 an2 ac2, .int .i64 ae2, .bool ag3, .slice aX3 an3 ac3, .int .i64 ae3, .bool awa, .slice aD adn adc, .bool aeh, .int .i64 ax1, .int .i64 ax2, .slice aL aln alc] 31)) 31 #[.int .u8 bkd, .int .i64 bfr, .int .i64 btt, .int .i64 bep, .int .i64 bnu, .int .i64 bab, .bool bg0, .slice bX0 bn0 bc0, .int .i64 be0, .bool bg1, .slice bX1 bn1 bc1, .int .i64 be1, .bool bg2, .slice bX2 bn2 bc2, .int .i64 be2, .bool bg3, .slice bX3 bn3 bc3, .int .i64 be3, .bool bwa, .slice bD bdn bdc, .bool beh, .int .i64 bx1, .int .i64 bx2, .slice bL bln blc]
  have a0 : V.cell? ⟨w.heap.size, 0, none⟩ = some (.int .u8 akd) := by rw [ka.cell]; rfl
  have a1 : V.cell? ⟨w.heap.size, 1, none⟩ = some (.int .i64 afr) := by rw [ka.cell]; rfl
  have a2 : V.cell? ⟨w.heap.size, 2, none⟩ = some (.int .i64 att) := by rw [ka.cell]; rfl
  have a3 : V.cell? ⟨w.heap.size, 3, none⟩ = some (.int .i64 aep) := by rw [ka.cell]; rfl
  have a4 : V.cell? ⟨w.heap.size, 4, none⟩ = some (.int .i64 anu) := by rw [ka.cell]; rfl
  have a5 : V.cell? ⟨w.heap.size, 5, none⟩ = some (.int .i64 aab) := by rw [ka.cell]; rfl
  have a6 : V.cell? ⟨w.heap.size, 6, none⟩ = some (.bool ag0) := by rw [ka.cell]; rfl
  have a7 : V.cell? ⟨w.heap.size, 7, none⟩ = some (.slice aX0 an0 ac0) := by rw [ka.cell]; rfl
  have a8 : V.cell? ⟨w.heap.size, 8, none⟩ = some (.int .i64 ae0) := by rw [ka.cell]; rfl
  have a9 : V.cell? ⟨w.heap.size, 9, none⟩ = some (.bool ag1) := by rw [ka.cell]; rfl
  have a10 : V.cell? ⟨w.heap.size, 10, none⟩ = some (.slice aX1 an1 ac1) := by rw [ka.cell]; rfl
  have a11 : V.cell? ⟨w.heap.size, 11, none⟩ = some (.int .i64 ae1) := by rw [ka.cell]; rfl
  have a12 : V.cell? ⟨w.heap.size, 12, none⟩ = some (.bool ag2) := by rw [ka.cell]; rfl
  have a13 : V.cell? ⟨w.heap.size, 13, none⟩ = some (.slice aX2 an2 ac2) := by rw [ka.cell]; rfl
  have a14 : V.cell? ⟨w.heap.size, 14, none⟩ = some (.int .i64 ae2) := by rw [ka.cell]; rfl
  have a15 : V.cell? ⟨w.heap.size, 15, none⟩ = some (.bool ag3) := by rw [ka.cell]; rfl
  have a16 : V.cell? ⟨w.heap.size, 16, none⟩ = some (.slice aX3 an3 ac3) := by rw [ka.cell]; rfl
  have a17 : V.cell? ⟨w.heap.size, 17, none⟩ = some (.int .i64 ae3) := by rw [ka.cell]; rfl
  have b0 : V.cell? ⟨w.heap.size + 1, 0, none⟩ = some (.int .u8 bkd) := by rw [kb.cell]; rfl
  have b1 : V.cell? ⟨w.heap.size + 1, 1, none⟩ = some (.int .i64 bfr) := by rw [kb.cell]; rfl
  have b2 : V.cell? ⟨w.heap.size + 1, 2, none⟩ = some (.int .i64 btt) := by rw [kb.cell]; rfl
  have b3 : V.cell? ⟨w.heap.size + 1, 3, none⟩ = some (.int .i64 bep) := by rw [kb.cell]; rfl
  have b4 : V.cell? ⟨w.heap.size + 1, 4, none⟩ = some (.int .i64 bnu) := by rw [kb.cell]; rfl
  have b5 : V.cell? ⟨w.heap.size + 1, 5, none⟩ = some (.int .i64 bab) := by rw [kb.cell]; rfl
  have b6 : V.cell? ⟨w.heap.size + 1, 6, none⟩ = some (.bool bg0) := by rw [kb.cell]; rfl
  have b7 : V.cell? ⟨w.heap.size + 1, 7, none⟩ = some (.slice bX0 bn0 bc0) := by rw [kb.cell]; rfl
  have b8 : V.cell? ⟨w.heap.size + 1, 8, none⟩ = some (.int .i64 be0) := by rw [kb.cell]; rfl
  have b9 : V.cell? ⟨w.heap.size + 1, 9, none⟩ = some (.bool bg1) := by rw [kb.cell]; rfl
  have b10 : V.cell? ⟨w.heap.size + 1, 10, none⟩ = some (.slice bX1 bn1 bc1) := by rw [kb.cell]; rfl
  have b11 : V.cell? ⟨w.heap.size + 1, 11, none⟩ = some (.int .i64 be1) := by rw [kb.cell]; rfl
  have b12 : V.cell? ⟨w.heap.size + 1, 12, none⟩ = some (.bool bg2) := by rw [kb.cell]; rfl
  have b13 : V.cell? ⟨w.heap.size + 1, 13, none⟩ = some (.slice bX2 bn2 bc2) := by rw [kb.cell]; rfl
  have b14 : V.cell? ⟨w.heap.size + 1, 14, none⟩ = some (.int .i64 be2) := by rw [kb.cell]; rfl
  have b15 : V.cell? ⟨w.heap.size + 1, 15, none⟩ = some (.bool bg3) := by rw [kb.cell]; rfl
  have b16 : V.cell? ⟨w.heap.size + 1, 16, none⟩ = some (.slice bX3 bn3 bc3) := by rw [kb.cell]; rfl
  have b17 : V.cell? ⟨w.heap.size + 1, 17, none⟩ = some (.int .i64 be3) := by rw [kb.cell]; rfl
  have gka := Lib.hid ka
  have gkb := Lib.hid kb
  have hs0 := hB.size
  clear ka kb
  go_enter Try.func11, Try.ntmps11
  go_wp2_with fail
  rw [← hV]
  clear hV
  go_wp2_with fail
  refine (hm _ hB).mono ?_
  rintro en w2 ⟨rfl, hb0⟩
  replace gka := Lib.hid (gka.out.below hb0 gka.out.lt)
  replace gkb := Lib.hid (gkb.out.below hb0 gkb.out.lt)
  have hB0 := hB.trans (hb0.mono hB.size)
  clear a0 b0 a1 b1 a2 b2 a3 b3 a4 b4 a5 b5 a6 b6 a7 b7 a8 b8 a9 b9 a10 b10 a11 b11 a12 b12 a13 b13 a14 b14 a15 b15 a16 b16 a17 b17 hb0 hB
  have a18 : w2.cell? ⟨w.heap.size, 18, none⟩ = some (.bool awa) := by rw [gka.out.cell]; rfl
  have b18 : w2.cell? ⟨w.heap.size + 1, 18, none⟩ = some (.bool bwa) := by rw [gkb.out.cell]; rfl
  have a19 : w2.cell? ⟨w.heap.size, 19, none⟩ = some (.slice aD adn adc) := by rw [gka.out.cell]; rfl
  have b19 : w2.cell? ⟨w.heap.size + 1, 19, none⟩ = some (.slice bD bdn bdc) := by rw [gkb.out.cell]; rfl
  go_wp2_with fail
  refine (hd _ hB0).mono ?_
  rintro en w3 ⟨rfl, hb1⟩
  replace gka := Lib.hid (gka.out.below hb1 gka.out.lt)
  replace gkb := Lib.hid (gkb.out.below hb1 gkb.out.lt)
  have hB1 := hB0.trans (hb1.mono hB0.size)
  clear a18 b18 a19 b19 hb1 hB0
  have a20 : w3.cell? ⟨w.heap.size, 20, none⟩ = some (.bool aeh) := by rw [gka.out.cell]; rfl
  have b20 : w3.cell? ⟨w.heap.size + 1, 20, none⟩ = some (.bool beh) := by rw [gkb.out.cell]; rfl
  have a21 : w3.cell? ⟨w.heap.size, 21, none⟩ = some (.int .i64 ax1) := by rw [gka.out.cell]; rfl
  have b21 : w3.cell? ⟨w.heap.size + 1, 21, none⟩ = some (.int .i64 bx1) := by rw [gkb.out.cell]; rfl
  have a22 : w3.cell? ⟨w.heap.size, 22, none⟩ = some (.int .i64 ax2) := by rw [gka.out.cell]; rfl
  have b22 : w3.cell? ⟨w.heap.size + 1, 22, none⟩ = some (.int .i64 bx2) := by rw [gkb.out.cell]; rfl
  go_wp2
  go_ret
  exact ⟨rfl, hB1⟩
set_option maxRecDepth 100000 in
set_option maxHeartbeats 16000000 in
theorem swe1 {akd afr att aep anu aab : Int} {ag0 : Bool} {aX0 : Option Addr} {an0 ac0 : Nat} {ae0 : Int} {ag1 : Bool} {aX1 : Option Addr} {an1 ac1 : Nat} {ae1 : Int} {ag2 : Bool} {aX2 : Option Addr} {an2 ac2 : Nat} {ae2 : Int} {ag3 : Bool} {aX3 : Option Addr} {an3 ac3 : Nat} {ae3 : Int} {awa : Bool} {aD : Option Addr} {adn adc : Nat} {aeh : Bool} {ax1 ax2 : Int} {aL : Option Addr} {aln alc : Nat} {bkd bfr btt bep bnu bab : Int} {bg0 : Bool} {bX0 : Option Addr} {bn0 bc0 : Nat} {be0 : Int} {bg1 : Bool} {bX1 : Option Addr} {bn1 bc1 : Nat} {be1 : Int} {bg2 : Bool} {bX2 : Option Addr} {bn2 bc2 : Nat} {be2 : Int} {bg3 : Bool} {bX3 : Option Addr} {bn3 bc3 : Nat} {be3 : Int} {bwa : Bool} {bD : Option Addr} {bdn bdc : Nat} {beh : Bool} {bx1 bx2 : Int} {bL : Option Addr} {bln blc : Nat} (w : World) (d0 : (akd == bkd) = true) (d1 : (afr == bfr) = true) (d2 : (att == btt) = true) (d3 : (aep == bep) = true) (d4 : (anu == bnu) = true) (d5 : (aab == bab) = true) (hm : ∀ w', Below w.heap.size w w' → Calls Try.prog 27 #[.agg #[.bool ag0, .slice aX0 an0 ac0, .int .i64 ae0, .bool ag1, .slice aX1 an1 ac1, .int .i64 ae1, .bool ag2, .slice aX2 an2 ac2, .int .i64 ae2, .bool ag3, .slice aX3 an3 ac3, .int .i64 ae3], .agg #[.bool bg0, .slice bX0 bn0 bc0, .int .i64 be0, .bool bg1, .slice bX1 bn1 bc1, .int .i64 be1, .bool bg2, .slice bX2 bn2 bc2, .int .i64 be2, .bool bg3, .slice bX3 bn3 bc3, .int .i64 be3]] w' fun en w'' => en = .returned (.bool true) ∧ Below w'.heap.size w' w'') (dw : (awa == bwa) = true) (hd : ∀ w', Below w.heap.size w w' → Calls Try.prog 28 #[.slice aD adn adc, .slice bD bdn bdc] w' fun en w'' => en = .returned (.bool true) ∧ Below w'.heap.size w' w'') (y0 : (aeh == beh) = true) (y1 : (ax1 == bx1) = false) : Calls Try.prog 11 #[.agg #[.int .u8 akd, .int .i64 afr, .int .i64 att, .int .i64 aep, .int .i64 anu, .int .i64 aab, .bool ag0, .slice aX0 an0 ac0, .int .i64 ae0, .bool ag1, .slice aX1 an1 ac1, .int .i64 ae1, .bool ag2, .slice aX2 an2 ac2, .int .i64 ae2, .bool ag3, .slice aX3 an3 ac3, .int .i64 ae3, .bool awa, .slice aD adn adc, .bool aeh, .int .i64 ax1, .int .i64 ax2, .slice aL aln alc], .agg #[.int .u8 bkd, .int .i64 bfr, .int .i64 btt, .int .i64 bep, .int .i64 bnu, .int .i64 bab, .bool bg0, .slice bX0 bn0 bc0, .int .i64 be0, .bool bg1, .slice bX1 bn1 bc1, .int .i64 be1, .bool bg2, .slice bX2 bn2 bc2, .int .i64 be2, .bool bg3, .slice bX3 bn3 bc3, .int .i64 be3, .bool bwa, .slice bD bdn bdc, .bool beh, .int .i64 bx1, .int .i64 bx2, .slice bL bln blc]] w fun en w' => en = .returned (.bool false) ∧ Below w.heap.size w w' := by
  obtain ⟨V, hV⟩ : ∃ V, V = (w.alloc (.cells #[.int .u8 akd, .int .i64 afr, .int .i64 att, .int .i64 aep, .int .i64 anu, .int .i64 aab, .bool ag0, .slice aX0 an0 ac0, .int .i64 ae0, .bool ag1, .slice aX1 an1 ac1, .int .i64 ae1, .bool ag2, .slice aX2 an2 ac2, .int .i64 ae2, .bool ag3, .slice aX3 an3 ac3, .int .i64 ae3, .bool awa, .slice aD adn adc, .bool aeh, .int .i64 ax1, .int .i64 ax2, .slice aL aln alc] 31)).alloc (.cells #[.int .u8 bkd, .int .i64 bfr, .int .i64 btt, .int .i64 bep, .int .i64 bnu, .int .i64 bab, .bool bg0, .slice bX0 bn0 bc0, .int .i64 be0, .bool bg1, .slice bX1 bn1 bc1, .int .i64 be1, .bool bg2, .slice bX2 bn2 bc2, .int .i64 be2, .bool bg3, .slice bX3 bn3 bc3, .int .i64 be3, .bool bwa, .slice bD bdn bdc, .bool beh, .int .i64 bx1, .int .i64 bx2, .slice bL bln blc] 31) := ⟨_, rfl⟩
  have hB : Below w.heap.size w V := by rw [hV]; exact ((Below.refl _ _).alloc (Nat.le_refl _) _).alloc (by simp) _
  have ka : Blk V w.heap.size 31 #[.int .u8 akd, .int .i64 afr, .int .i64 att, .int .i64 aep, .int .i64 anu, .int .i64 aab, .bool ag0, .slice aX0 an0 ac0, .int .i64 ae0, .bool ag1, .slice aX1 an1 ac1, .int .i64 ae1, .bool ag2, .slice aX2 an2 ac2, .int .i64 ae2, .bool ag3, .slice aX3 an3 ac3, .int .i64 ae3, .bool awa, .slice aD adn adc, .bool aeh, .int .i64 ax1, .int .i64 ax2, .slice aL aln alc] := by rw [hV]; exact (Blk.new w _ _).alloc _
  have kb : Blk V (w.heap.size + 1) 31 #[.int .u8 bkd, .int .i64 bfr, .int .i64 btt, .int .i64 bep, .int .i64 bnu, .int .i64 bab, .bool bg0, .slice bX0 bn0 bc0, .int .i64 be0, .bool bg1, .slice bX1 bn1 bc1, .int .i64 be1, .bool bg2, .slice bX2 bn2 bc2, .int .i64 be2, .bool bg3, .slice bX3 bn3 bc3, .int .i64 be3, .bool bwa, .slice bD bdn bdc, .bool beh, .int .i64 bx1, .int .i64 bx2, .slice bL bln blc] := by rw [hV]; simpa using Blk.new (w.alloc (.cells #[.int .u8 akd, .int .i64 afr, .int .i64 att, .int .i64 aep, .int .i64 anu, .int .i64 aab, .bool ag0, .slice aX0 an0 ac0, .int .i64 ae0, .bool ag1, .slice aX1 an1 ac1, .int .i64 ae1, .bool ag2, .slice aX2 an2 ac2, .int .i64 ae2, .bool ag3, .slice aX3 an3 ac3, .int .i64 ae3, .bool awa, .slice aD adn adc, .bool aeh, .int .i64 ax1, .int .i64 ax2, .slice aL aln alc] 31)) 31 #[.int .u8 bkd, .int .i64 bfr, .int .i64 btt, .int .i64 bep, .int .i64 bnu, .int .i64 bab, .bool bg0, .slice bX0 bn0 bc0, .int .i64 be0, .bool bg1, .slice bX1 bn1 bc1, .int .i64 be1, .bool bg2, .slice bX2 bn2 bc2, .int .i64 be2, .bool bg3, .slice bX3 bn3 bc3, .int .i64 be3, .bool bwa, .slice bD bdn bdc, .bool beh, .int .i64 bx1, .int .i64 bx2, .slice bL bln blc]
  have a0 : V.cell? ⟨w.heap.size, 0, none⟩ = some (.int .u8 akd) := by rw [ka.cell]; rfl
  have a1 : V.cell? ⟨w.heap.size, 1, none⟩ = some (.int .i64 afr) := by rw [ka.cell]; rfl
  have a2 : V.cell? ⟨w.heap.size, 2, none⟩ = some (.int .i64 att) := by rw [ka.cell]; rfl
  have a3 : V.cell? ⟨w.heap.size, 3, none⟩ = some (.int .i64 aep) := by rw [ka.cell]; rfl
  have a4 : V.cell? ⟨w.heap.size, 4, none⟩ = some (.int .i64 anu) := by rw [ka.cell]; rfl
  have a5 : V.cell? ⟨w.heap.size, 5, none⟩ = some (.int .i64 aab) := by rw [ka.cell]; rfl
  have a6 : V.cell? ⟨w.heap.size, 6, none⟩ = some (.bool ag0) := by rw [ka.cell]; rfl
  have a7 : V.cell? ⟨w.heap.size, 7, none⟩ = some (.slice aX0 an0 ac0) := by rw [ka.cell]; rfl
  have a8 : V.cell? ⟨w.heap.size, 8, none⟩ = some (.int .i64 ae0) := by rw [ka.cell]; rfl
  have a9 : V.cell? ⟨w.heap.size, 9, none⟩ = some (.bool ag1) := by rw [ka.cell]; rfl
  have a10 : V.cell? ⟨w.heap.size, 10, none⟩ = some (.slice aX1 an1 ac1) := by rw [ka.cell]; rfl
  have a11 : V.cell? ⟨w.heap.size, 11, none⟩ = some (.int .i64 ae1) := by rw [ka.cell]; rfl
  have a12 : V.cell? ⟨w.heap.size, 12, none⟩ = some (.bool ag2) := by rw [ka.cell]; rfl
  have a13 : V.cell? ⟨w.heap.size, 13, none⟩ = some (.slice aX2 an2 ac2) := by rw [ka.cell]; rfl
  have a14 : V.cell? ⟨w.heap.size, 14, none⟩ = some (.int .i64 ae2) := by rw [ka.cell]; rfl
  have a15 : V.cell? ⟨w.heap.size, 15, none⟩ = some (.bool ag3) := by rw [ka.cell]; rfl
  have a16 : V.cell? ⟨w.heap.size, 16, none⟩ = some (.slice aX3 an3 ac3) := by rw [ka.cell]; rfl
  have a17 : V.cell? ⟨w.heap.size, 17, none⟩ = some (.int .i64 ae3) := by rw [ka.cell]; rfl
  have b0 : V.cell? ⟨w.heap.size + 1, 0, none⟩ = some (.int .u8 bkd) := by rw [kb.cell]; rfl
  have b1 : V.cell? ⟨w.heap.size + 1, 1, none⟩ = some (.int .i64 bfr) := by rw [kb.cell]; rfl
  have b2 : V.cell? ⟨w.heap.size + 1, 2, none⟩ = some (.int .i64 btt) := by rw [kb.cell]; rfl
  have b3 : V.cell? ⟨w.heap.size + 1, 3, none⟩ = some (.int .i64 bep) := by rw [kb.cell]; rfl
  have b4 : V.cell? ⟨w.heap.size + 1, 4, none⟩ = some (.int .i64 bnu) := by rw [kb.cell]; rfl
  have b5 : V.cell? ⟨w.heap.size + 1, 5, none⟩ = some (.int .i64 bab) := by rw [kb.cell]; rfl
  have b6 : V.cell? ⟨w.heap.size + 1, 6, none⟩ = some (.bool bg0) := by rw [kb.cell]; rfl
  have b7 : V.cell? ⟨w.heap.size + 1, 7, none⟩ = some (.slice bX0 bn0 bc0) := by rw [kb.cell]; rfl
  have b8 : V.cell? ⟨w.heap.size + 1, 8, none⟩ = some (.int .i64 be0) := by rw [kb.cell]; rfl
  have b9 : V.cell? ⟨w.heap.size + 1, 9, none⟩ = some (.bool bg1) := by rw [kb.cell]; rfl
  have b10 : V.cell? ⟨w.heap.size + 1, 10, none⟩ = some (.slice bX1 bn1 bc1) := by rw [kb.cell]; rfl
  have b11 : V.cell? ⟨w.heap.size + 1, 11, none⟩ = some (.int .i64 be1) := by rw [kb.cell]; rfl
  have b12 : V.cell? ⟨w.heap.size + 1, 12, none⟩ = some (.bool bg2) := by rw [kb.cell]; rfl
  have b13 : V.cell? ⟨w.heap.size + 1, 13, none⟩ = some (.slice bX2 bn2 bc2) := by rw [kb.cell]; rfl
  have b14 : V.cell? ⟨w.heap.size + 1, 14, none⟩ = some (.int .i64 be2) := by rw [kb.cell]; rfl
  have b15 : V.cell? ⟨w.heap.size + 1, 15, none⟩ = some (.bool bg3) := by rw [kb.cell]; rfl
  have b16 : V.cell? ⟨w.heap.size + 1, 16, none⟩ = some (.slice bX3 bn3 bc3) := by rw [kb.cell]; rfl
  have b17 : V.cell? ⟨w.heap.size + 1, 17, none⟩ = some (.int .i64 be3) := by rw [kb.cell]; rfl
  have gka := Lib.hid ka
  have gkb := Lib.hid kb
  have hs0 := hB.size
  clear ka kb
  go_enter Try.func11, Try.ntmps11
  go_wp2_with fail
  rw [← hV]
  clear hV
  go_wp2_with fail
  refine (hm _ hB).mono ?_
  rintro en w2 ⟨rfl, hb0⟩
  replace gka := Lib.hid (gka.out.below hb0 gka.out.lt)
  replace gkb := Lib.hid (gkb.out.below hb0 gkb.out.lt)
  have hB0 := hB.trans (hb0.mono hB.size)
  clear a0 b0 a1 b1 a2 b2 a3 b3 a4 b4 a5 b5 a6 b6 a7 b7 a8 b8 a9 b9 a10 b10 a11 b11 a12 b12 a13 b13 a14 b14 a15 b15 a16 b16 a17 b17 hb0 hB
  have a18 : w2.cell? ⟨w.heap.size, 18, none⟩ = some (.bool awa) := by rw [gka.out.cell]; rfl
  have b18 : w2.cell? ⟨w.heap.size + 1, 18, none⟩ = some (.bool bwa) := by rw [gkb.out.cell]; rfl
  have a19 : w2.cell? ⟨w.heap.size, 19, none⟩ = some (.slice aD adn adc) := by rw [gka.out.cell]; rfl
  have b19 : w2.cell? ⟨w.heap.size + 1, 19, none⟩ = some (.slice bD bdn bdc) := by rw [gkb.out.cell]; rfl
  go_wp2_with fail
  refine (hd _ hB0).mono ?_
  rintro en w3 ⟨rfl, hb1⟩
  replace gka := Lib.hid (gka.out.below hb1 gka.out.lt)
  replace gkb := Lib.hid (gkb.out.below hb1 gkb.out.lt)
  have hB1 := hB0.trans (hb1.mono hB0.size)
  clear a18 b18 a19 b19 hb1 hB0
  have a20 : w3.cell? ⟨w.heap.size, 20, none⟩ = some (.bool aeh) := by rw [gka.out.cell]; rfl
  have b20 : w3.cell? ⟨w.heap.size + 1, 20, none⟩ = some (.bool beh) := by rw [gkb.out.cell]; rfl
  have a21 : w3.cell? ⟨w.heap.size, 21, none⟩ = some (.int .i64 ax1) := by rw [gka.out.cell]; rfl
  have b21 : w3.cell? ⟨w.heap.size + 1, 21, none⟩ = some (.int .i64 bx1) := by rw [gkb.out.cell]; rfl
  have a22 : w3.cell? ⟨w.heap.size, 22, none⟩ = some (.int .i64 ax2) := by rw [gka.out.cell]; rfl
  have b22 : w3.cell? ⟨w.heap.size + 1, 22, none⟩ = some (.int .i64 bx2) := by rw [gkb.out.cell]; rfl
  go_wp2
  go_ret
  exact ⟨rfl, hB1⟩
set_option maxRecDepth 100000 in
set_option maxHeartbeats 16000000 in
theorem swe2 {akd afr att aep anu aab : Int} {ag0 : Bool} {aX0 : Option Addr} {an0 ac0 : Nat} {ae0 : Int} {ag1 : Bool} {aX1 : Option Addr} {an1 ac1 : Nat} {ae1 : Int} {ag2 : Bool} {aX2 : Option Addr} {an2 ac2 : Nat} {ae2 : Int} {ag3 : Bool} {aX3 : Option Addr} {an3 ac3 : Nat} {ae3 : Int} {awa : Bool} {aD : Option Addr} {adn adc : Nat} {aeh : Bool} {ax1 ax2 : Int} {aL : Option Addr} {aln alc : Nat} {bkd bfr btt bep bnu bab : Int} {bg0 : Bool} {bX0 : Option Addr} {bn0 bc0 : Nat} {be0 : Int} {bg1 : Bool} {bX1 : Option Addr} {bn1 bc1 : Nat} {be1 : Int} {bg2 : Bool} {bX2 : Option Addr} {bn2 bc2 : Nat} {be2 : Int} {bg3 : Bool} {bX3 : Option Addr} {bn3 bc3 : Nat} {be3 : Int} {bwa : Bool} {bD : Option Addr} {bdn bdc : Nat} {beh : Bool} {bx1 bx2 : Int} {bL : Option Addr} {bln blc : Nat} (w : World) (d0 : (akd == bkd) = true) (d1 : (afr == bfr) = true) (d2 : (att == btt) = true) (d3 : (aep == bep) = true) (d4 : (anu == bnu) = true) (d5 : (aab == bab) = true) (hm : ∀ w', Below w.heap.size w w' → Calls Try.prog 27 #[.agg #[.bool ag0, .slice aX0 an0 ac0, .int .i64 ae0, .bool ag1, .slice aX1 an1 ac1, .int .i64 ae1, .bool ag2, .slice aX2 an2 ac2, .int .i64 ae2, .bool ag3, .slice aX3 an3 ac3, .int .i64 ae3], .agg #[.bool bg0, .slice bX0 bn0 bc0, .int .i64 be0, .bool bg1, .slice bX1 bn1 bc1, .int .i64 be1, .bool bg2, .slice bX2 bn2 bc2, .int .i64 be2, .bool bg3, .slice bX3 bn3 bc3, .int .i64 be3]] w' fun en w'' => en = .returned (.bool true) ∧ Below w'.heap.size w' w'') (dw : (awa == bwa) = true) (hd : ∀ w', Below w.heap.size w w' → Calls Try.prog 28 #[.slice aD adn adc, .slice bD bdn bdc] w' fun en w'' => en = .returned (.bool true) ∧ Below w'.heap.size w' w'') (y0 : (aeh == beh) = true) (y1 : (ax1 == bx1) = true) (y2 : (ax2 == bx2) = false) : Calls Try.prog 11 #[.agg #[.int .u8 akd, .int .i64 afr, .int .i64 att, .int .i64 aep, .int .i64 anu, .int .i64 aab, .bool ag0, .slice aX0 an0 ac0, .int .i64 ae0, .bool ag1, .slice aX1 an1 ac1, .int .i64 ae1, .bool ag2, .slice aX2 an2 ac2, .int .i64 ae2, .bool ag3, .slice aX3 an3 ac3, .int .i64 ae3, .bool awa, .slice aD adn adc, .bool aeh, .int .i64 ax1, .int .i64 ax2, .slice aL aln alc], .agg #[.int .u8 bkd, .int .i64 bfr, .int .i64 btt, .int .i64 bep, .int .i64 bnu, .int .i64 bab, .bool bg0, .slice bX0 bn0 bc0, .int .i64 be0, .bool bg1, .slice bX1 bn1 bc1, .int .i64 be1, .bool bg2, .slice bX2 bn2 bc2, .int .i64 be2, .bool bg3, .slice bX3 bn3 bc3, .int .i64 be3, .bool bwa, .slice bD bdn bdc, .bool beh, .int .i64 bx1, .int .i64 bx2, .slice bL bln blc]] w fun en w' => en = .returned (.bool false) ∧ Below w.heap.size w w' := by
  obtain ⟨V, hV⟩ : ∃ V, V = (w.alloc (.cells #[.int .u8 akd, .int .i64 afr, .int .i64 att, .int .i64 aep, .int .i64 anu, .int .i64 aab, .bool ag0, .slice aX0 an0 ac0, .int .i64 ae0, .bool ag1, .slice aX1 an1 ac1, .int .i64 ae1, .bool ag2, .slice aX2 an2 ac2, .int .i64 ae2, .bool ag3, .slice aX3 an3 ac3, .int .i64 ae3, .bool awa, .slice aD adn adc, .bool aeh, .int .i64 ax1, .int .i64 ax2, .slice aL aln alc] 31)).alloc (.cells #[.int .u8 bkd, .int .i64 bfr, .int .i64 btt, .int .i64 bep, .int .i64 bnu, .int .i64 bab, .bool bg0, .slice bX0 bn0 bc0, .int .i64 be0, .bool bg1, .slice bX1 bn1 bc1, .int .i64 be1, .bool bg2, .slice bX2 bn2 bc2, .int .i64 be2, .bool bg3, .slice bX3 bn3 bc3, .int .i64 be3, .bool bwa, .slice bD bdn bdc, .bool beh, .int .i64 bx1, .int .i64 bx2, .slice bL bln blc] 31) := ⟨_, rfl⟩
  have hB : Below w.heap.size w V := by rw [hV]; exact ((Below.refl _ _).alloc (Nat.le_refl _) _).alloc (by simp) _
  have ka : Blk V w.heap.size 31 #[.int .u8 akd, .int .i64 afr, .int .i64 att, .int .i64 aep, .int .i64 anu, .int .i64 aab, .bool ag0, .slice aX0 an0 ac0, .int .i64 ae0, .bool ag1, .slice aX1 an1 ac1, .int .i64 ae1, .bool ag2, .slice aX2 an2 ac2, .int .i64 ae2, .bool ag3, .slice aX3 an3 ac3, .int .i64 ae3, .bool awa, .slice aD adn adc, .bool aeh, .int .i64 ax1, .int .i64 ax2, .slice aL aln alc] := by rw [hV]; exact (Blk.new w _ _).alloc _
  have kb : Blk V (w.heap.size + 1) 31 #[.int .u8 bkd, .int .i64 bfr, .int .i64 btt, .int .i64 bep, .int .i64 bnu, .int .i64 bab, .bool bg0, .slice bX0 bn0 bc0, .int .i64 be0, .bool bg1, .slice bX1 bn1 bc1, .int .i64 be1, .bool bg2, .slice bX2 bn2 bc2, .int .i64 be2, .bool bg3, .slice bX3 bn3 bc3, .int .i64 be3, .bool bwa, .slice bD bdn bdc, .bool beh, .int .i64 bx1, .int .i64 bx2, .slice bL bln blc] := by rw [hV]; simpa using Blk.new (w.alloc (.cells #[.int .u8 akd, .int .i64 afr, .int .i64 att, .int .i64 aep, .int .i64 anu, .int .i64 aab, .bool ag0, .slice aX0 an0 ac0, .int .i64 ae0, .bool ag1, .slice aX1 an1 ac1, .int .i64 ae1, .bool ag2, .slice aX2 an2 ac2, .int .i64 ae2, .bool ag3, .slice aX3 an3 ac3, .int .i64 ae3, .bool awa, .slice aD adn adc, .bool aeh, .int .i64 ax1, .int .i64 ax2, .slice aL aln alc] 31)) 31 #[.int .u8 bkd, .int .i64 bfr, .int .i64 btt, .int .i64 bep, .int .i64 bnu, .int .i64 bab, .bool bg0, .slice bX0 bn0 bc0, .int .i64 be0, .bool bg1, .slice bX1 bn1 bc1, .int .i64 be1, .bool bg2, .slice bX2 bn2 bc2, .int .i64 be2, .bool bg3, .slice bX3 bn3 bc3, .int .i64 be3, .bool bwa, .slice bD bdn bdc, .bool beh, .int .i64 bx1, .int .i64 bx2, .slice bL bln blc]
  have a0 : V.cell? ⟨w.heap.size, 0, none⟩ = some (.int .u8 akd) := by rw [ka.cell]; rfl
  have a1 : V.cell? ⟨w.heap.size, 1, none⟩ = some (.int .i64 afr) := by rw [ka.cell]; rfl
  have a2 : V.cell? ⟨w.heap.size, 2, none⟩ = some (.int .i64 att) := by rw [ka.cell]; rfl
  have a3 : V.cell? ⟨w.heap.size, 3, none⟩ = some (.int .i64 aep) := by rw [ka.cell]; rfl
  have a4 : V.cell? ⟨w.heap.size, 4, none⟩ = some (.int .i64 anu) := by rw [ka.cell]; rfl
  have a5 : V.cell? ⟨w.heap.size, 5, none⟩ = some (.int .i64 aab) := by rw [ka.cell]; rfl
  have a6 : V.cell? ⟨w.heap.size, 6, none⟩ = some (.bool ag0) := by rw [ka.cell]; rfl
  have a7 : V.cell? ⟨w.heap.size, 7, none⟩ = some (.slice aX0 an0 ac0) := by rw [ka.cell]; rfl
  have a8 : V.cell? ⟨w.heap.size, 8, none⟩ = some (.int .i64 ae0) := by rw [ka.cell]; rfl
  have a9 : V.cell? ⟨w.heap.size, 9, none⟩ = some (.bool ag1) := by rw [ka.cell]; rfl
  have a10 : V.cell? ⟨w.heap.size, 10, none⟩ = some (.slice aX1 an1 ac1) := by rw [ka.cell]; rfl
  have a11 : V.cell? ⟨w.heap.size, 11, none⟩ = some (.int .i64 ae1) := by rw [ka.cell]; rfl
  have a12 : V.cell? ⟨w.heap.size, 12, none⟩ = some (.bool ag2) := by rw [ka.cell]; rfl
  have a13 : V.cell? ⟨w.heap.size, 13, none⟩ = some (.slice aX2 an2 ac2) := by rw [ka.cell]; rfl
  have a14 : V.cell? ⟨w.heap.size, 14, none⟩ = some (.int .i64 ae2) := by rw [ka.cell]; rfl
  have a15 : V.cell? ⟨w.heap.size, 15, none⟩ = some (.bool ag3) := by rw [ka.cell]; rfl
  have a16 : V.cell? ⟨w.heap.size, 16, none⟩ = some (.slice aX3 an3 ac3) := by rw [ka.cell]; rfl
  have a17 : V.cell? ⟨w.heap.size, 17, none⟩ = some (.int .i64 ae3) := by rw [ka.cell]; rfl
  have b0 : V.cell? ⟨w.heap.size + 1, 0, none⟩ = some (.int .u8 bkd) := by rw [kb.cell]; rfl
  have b1 : V.cell? ⟨w.heap.size + 1, 1, none⟩ = some (.int .i64 bfr) := by rw [kb.cell]; rfl
  have b2 : V.cell? ⟨w.heap.size + 1, 2, none⟩ = some (.int .i64 btt) := by rw [kb.cell]; rfl
  have b3 : V.cell? ⟨w.heap.size + 1, 3, none⟩ = some (.int .i64 bep) := by rw [kb.cell]; rfl
  have b4 : V.cell? ⟨w.heap.size + 1, 4, none⟩ = some (.int .i64 bnu) := by rw [kb.cell]; rfl
  have b5 : V.cell? ⟨w.heap.size + 1, 5, none⟩ = some (.int .i64 bab) := by rw [kb.cell]; rfl
  have b6 : V.cell? ⟨w.heap.size + 1, 6, none⟩ = some (.bool bg0) := by rw [kb.cell]; rfl
  have b7 : V.cell? ⟨w.heap.size + 1, 7, none⟩ = some (.slice bX0 bn0 bc0) := by rw [kb.cell]; rfl
  have b8 : V.cell? ⟨w.heap.size + 1, 8, none⟩ = some (.int .i64 be0) := by rw [kb.cell]; rfl
  have b9 : V.cell? ⟨w.heap.size + 1, 9, none⟩ = some (.bool bg1) := by rw [kb.cell]; rfl
  have b10 : V.cell? ⟨w.heap.size + 1, 10, none⟩ = some (.slice bX1 bn1 bc1) := by rw [kb.cell]; rfl
  have b11 : V.cell? ⟨w.heap.size + 1, 11, none⟩ = some (.int .i64 be1) := by rw [kb.cell]; rfl
  have b12 : V.cell? ⟨w.heap.size + 1, 12, none⟩ = some (.bool bg2) := by rw [kb.cell]; rfl
  have b13 : V.cell? ⟨w.heap.size + 1, 13, none⟩ = some (.slice bX2 bn2 bc2) := by rw [kb.cell]; rfl
  have b14 : V.cell? ⟨w.heap.size + 1, 14, none⟩ = some (.int .i64 be2) := by rw [kb.cell]; rfl
  have b15 : V.cell? ⟨w.heap.size + 1, 15, none⟩ = some (.bool bg3) := by rw [kb.cell]; rfl
  have b16 : V.cell? ⟨w.heap.size + 1, 16, none⟩ = some (.slice bX3 bn3 bc3) := by rw [kb.cell]; rfl
  have b17 : V.cell? ⟨w.heap.size + 1, 17, none⟩ = some (.int .i64 be3) := by rw [kb.cell]; rfl
  have gka := Lib.hid ka
  have gkb := Lib.hid kb
  have hs0 := hB.size
  clear ka kb
  go_enter Try.func11, Try.ntmps11
  go_wp2_with fail
  rw [← hV]
  clear hV
  go_wp2_with fail
  refine (hm _ hB).mono ?_
  rintro en w2 ⟨rfl, hb0⟩
  replace gka := Lib.hid (gka.out.below hb0 gka.out.lt)
  replace gkb := Lib.hid (gkb.out.below hb0 gkb.out.lt)
  have hB0 := hB.trans (hb0.mono hB.size)
  clear a0 b0 a1 b1 a2 b2 a3 b3 a4 b4 a5 b5 a6 b6 a7 b7 a8 b8 a9 b9 a10 b10 a11 b11 a12 b12 a13 b13 a14 b14 a15 b15 a16 b16 a17 b17 hb0 hB
  have a18 : w2.cell? ⟨w.heap.size, 18, none⟩ = some (.bool awa) := by rw [gka.out.cell]; rfl
  have b18 : w2.cell? ⟨w.heap.size + 1, 18, none⟩ = some (.bool bwa) := by rw [gkb.out.cell]; rfl
  have a19 : w2.cell? ⟨w.heap.size, 19, none⟩ = some (.slice aD adn adc) := by rw [gka.out.cell]; rfl
  have b19 : w2.cell? ⟨w.heap.size + 1, 19, none⟩ = some (.slice bD bdn bdc) := by rw [gkb.out.cell]; rfl
  go_wp2_with fail
  refine (hd _ hB0).mono ?_
  rintro en w3 ⟨rfl, hb1⟩
  replace gka := Lib.hid (gka.out.below hb1 gka.out.lt)
  replace gkb := Lib.hid (gkb.out.below hb1 gkb.out.lt)
  have hB1 := hB0.trans (hb1.mono hB0.size)
  clear a18 b18 a19 b19 hb1 hB0
  have a20 : w3.cell? ⟨w.heap.size, 20, none⟩ = some (.bool aeh) := by rw [gka.out.cell]; rfl
  have b20 : w3.cell? ⟨w.heap.size + 1, 20, none⟩ = some (.bool beh) := by rw [gkb.out.cell]; rfl
  have a21 : w3.cell? ⟨w.heap.size, 21, none⟩ = some (.int .i64 ax1) := by rw [gka.out.cell]; rfl
  have b21 : w3.cell? ⟨w.heap.size + 1, 21, none⟩ = some (.int .i64 bx1) := by rw [gkb.out.cell]; rfl
  have a22 : w3.cell? ⟨w.heap.size, 22, none⟩ = some (.int .i64 ax2) := by rw [gka.out.cell]; rfl
  have b22 : w3.cell? ⟨w.heap.size + 1, 22, none⟩ = some (.int .i64 bx2) := by rw [gkb.out.cell]; rfl
  go_wp2
  go_ret
  exact ⟨rfl, hB1⟩
set_option maxRecDepth 100000 in
set_option maxHeartbeats 16000000 in
theorem swl {akd afr att aep anu aab : Int} {ag0 : Bool} {aX0 : Option Addr} {an0 ac0 : Nat} {ae0 : Int} {ag1 : Bool} {aX1 : Option Addr} {an1 ac1 : Nat} {ae1 : Int} {ag2 : Bool} {aX2 : Option Addr} {an2 ac2 : Nat} {ae2 : Int} {ag3 : Bool} {aX3 : Option Addr} {an3 ac3 : Nat} {ae3 : Int} {awa : Bool} {aD : Option Addr} {adn adc : Nat} {aeh : Bool} {ax1 ax2 : Int} {aL : Option Addr} {aln alc : Nat} {bkd bfr btt bep bnu bab : Int} {bg0 : Bool} {bX0 : Option Addr} {bn0 bc0 : Nat} {be0 : Int} {bg1 : Bool} {bX1 : Option Addr} {bn1 bc1 : Nat} {be1 : Int} {bg2 : Bool} {bX2 : Option Addr} {bn2 bc2 : Nat} {be2 : Int} {bg3 : Bool} {bX3 : Option Addr} {bn3 bc3 : Nat} {be3 : Int} {bwa : Bool} {bD : Option Addr} {bdn bdc : Nat} {beh : Bool} {bx1 bx2 : Int} {bL : Option Addr} {bln blc : Nat} (w : World) (d0 : (akd == bkd) = true) (d1 : (afr == bfr) = true) (d2 : (att == btt) = true) (d3 : (aep == bep) = true) (d4 : (anu == bnu) = true) (d5 : (aab == bab) = true) (hm : ∀ w', Below w.heap.size w w' → Calls Try.prog 27 #[.agg #[.bool ag0, .slice aX0 an0 ac0, .int .i64 ae0, .bool ag1, .slice aX1 an1 ac1, .int .i64 ae1, .bool ag2, .slice aX2 an2 ac2, .int .i64 ae2, .bool ag3, .slice aX3 an3 ac3, .int .i64 ae3], .agg #[.bool bg0, .slice bX0 bn0 bc0, .int .i64 be0, .bool bg1, .slice bX1 bn1 bc1, .int .i64 be1, .bool bg2, .slice bX2 bn2 bc2, .int .i64 be2, .bool bg3, .slice bX3 bn3 bc3, .int .i64 be3]] w' fun en w'' => en = .returned (.bool true) ∧ Below w'.heap.size w' w'') (dw : (awa == bwa) = true) (hd : ∀ w', Below w.heap.size w w' → Calls Try.prog 28 #[.slice aD adn adc, .slice bD bdn bdc] w' fun en w'' => en = .returned (.bool true) ∧ Below w'.heap.size w' w'') (y0 : (aeh == beh) = true) (y1 : (ax1 == bx1) = true) (y2 : (ax2 == bx2) = true) (Q : Bool) (hl : ∀ w', Below w.heap.size w w' → Calls Try.prog 29 #[.slice aL aln alc, .slice bL bln blc] w' fun en w'' => en = .returned (.bool Q) ∧ Below w'.heap.size w' w'') : Calls Try.prog 11 #[.agg #[.int .u8 akd, .int .i64 afr, .int .i64 att, .int .i64 aep, .int .i64 anu, .int .i64 aab, .bool ag0, .slice aX0 an0 ac0, .int .i64 ae0, .bool ag1, .slice aX1 an1 ac1, .int .i64 ae1, .bool ag2, .slice aX2 an2 ac2, .int .i64 ae2, .bool ag3, .slice aX3 an3 ac3, .int .i64 ae3, .bool awa, .slice aD adn adc, .bool aeh, .int .i64 ax1, .int .i64 ax2, .slice aL aln alc], .agg #[.int .u8 bkd, .int .i64 bfr, .int .i64 btt, .int .i64 bep, .int .i64 bnu, .int .i64 bab, .bool bg0, .slice bX0 bn0 bc0, .int .i64 be0, .bool bg1, .slice bX1 bn1 bc1, .int .i64 be1, .bool bg2, .slice bX2 bn2 bc2, .int .i64 be2, .bool bg3, .slice bX3 bn3 bc3, .int .i64 be3, .bool bwa, .slice bD bdn bdc, .bool beh, .int .i64 bx1, .int .i64 bx2, .slice bL bln blc]] w fun en w' => en = .returned (.bool Q) ∧ Below w.heap.size w w' := by
  obtain ⟨V, hV⟩ : ∃ V, V = (w.alloc (.cells #[.int .u8 akd, .int .i64 afr, .int .i64 att, .int .i64 aep, .int .i64 anu, .int .i64 aab, .bool ag0, .slice aX0 an0 ac0, .int .i64 ae0, .bool ag1, .slice aX1 an1 ac1, .int .i64 ae1, .bool ag2, .slice aX2 an2 ac2, .int .i64 ae2, .bool ag3, .slice aX3 an3 ac3, .int .i64 ae3, .bool awa, .slice aD adn adc, .bool aeh, .int .i64 ax1, .int .i64 ax2, .slice aL aln alc] 31)).alloc (.cells #[.int .u8 bkd, .int .i64 bfr, .int .i64 btt, .int .i64 bep, .int .i64 bnu, .int .i64 bab, .bool bg0, .slice bX0 bn0 bc0, .int .i64 be0, .bool bg1, .slice bX1 bn1 bc1, .int .i64 be1, .bool bg2, .slice bX2 bn2 bc2, .int .i64 be2, .bool bg3, .slice bX3 bn3 bc3, .int .i64 be3, .bool bwa, .slice bD bdn bdc, .bool beh, .int .i64 bx1, .int .i64 bx2, .slice bL bln blc] 31) := ⟨_, rfl⟩
  have hB : Below w.heap.size w V := by rw [hV]; exact ((Below.refl _ _).alloc (Nat.le_refl _) _).alloc (by simp) _
  have ka : Blk V w.heap.size 31 #[.int .u8 akd, .int .i64 afr, .int .i64 att, .int .i64 aep, .int .i64 anu, .int .i64 aab, .bool ag0, .slice aX0 an0 ac0, .int .i64 ae0, .bool ag1, .slice aX1 an1 ac1, .int .i64 ae1, .bool ag2, .slice aX2 an2 ac2, .int .i64 ae2, .bool ag3, .slice aX3 an3 ac3, .int .i64 ae3, .bool awa, .slice aD adn adc, .bool aeh, .int .i64 ax1, .int .i64 ax2, .slice aL aln alc] := by rw [hV]; exact (Blk.new w _ _).alloc _
  have kb : Blk V (w.heap.size + 1) 31 #[.int .u8 bkd, .int .i64 bfr, .int .i64 btt, .int .i64 bep, .int .i64 bnu, .int .i64 bab, .bool bg0, .slice bX0 bn0 bc0, .int .i64 be0, .bool bg1, .slice bX1 bn1 bc1, .int .i64 be1, .bool bg2, .slice bX2 bn2 bc2, .int .i64 be2, .bool bg3, .slice bX3 bn3 bc3, .int .i64 be3, .bool bwa, .slice bD bdn bdc, .bool beh, .int .i64 bx1, .int .i64 bx2, .slice bL bln blc] := by rw [hV]; simpa using Blk.new (w.alloc (.cells #[.int .u8 akd, .int .i64 afr, .int .i64 att, .int .i64 aep, .int .i64 anu, .int .i64 aab, .bool ag0, .slice aX0 an0 ac0, .int .i64 ae0, .bool ag1, .slice aX1 an1 ac1, .int .i64 ae1, .bool ag2, .slice aX2 an2 ac2, .int .i64 ae2, .bool ag3, .slice aX3 an3 ac3, .int .i64 ae3, .bool awa, .slice aD adn adc, .bool aeh, .int .i64 ax1, .int .i64 ax2, .slice aL aln alc] 31)) 31 #[.int .u8 bkd, .int .i64 bfr, .int .i64 btt, .int .i64 bep, .int .i64 bnu, .int .i64 bab, .bool bg0, .slice bX0 bn0 bc0, .int .i64 be0, .bool bg1, .slice bX1 bn1 bc1, .int .i64 be1, .bool bg2, .slice bX2 bn2 bc2, .int .i64 be2, .bool bg3, .slice bX3 bn3 bc3, .int .i64 be3, .bool bwa, .slice bD bdn bdc, .bool beh, .int .i64 bx1, .int .i64 bx2, .slice bL bln blc]
  have a0 : V.cell? ⟨w.heap.size, 0, none⟩ = some (.int .u8 akd) := by rw [ka.cell]; rfl
  have a1 : V.cell? ⟨w.heap.size, 1, none⟩ = some (.int .i64 afr) := by rw [ka.cell]; rfl
  have a2 : V.cell? ⟨w.heap.size, 2, none⟩ = some (.int .i64 att) := by rw [ka.cell]; rfl
  have a3 : V.cell? ⟨w.heap.size, 3, none⟩ = some (.int .i64 aep) := by rw [ka.cell]; rfl
  have a4 : V.cell? ⟨w.heap.size, 4, none⟩ = some (.int .i64 anu) := by rw [ka.cell]; rfl
  have a5 : V.cell? ⟨w.heap.size, 5, none⟩ = some (.int .i64 aab) := by rw [ka.cell]; rfl
  have a6 : V.cell? ⟨w.heap.size, 6, none⟩ = some (.bool ag0) := by rw [ka.cell]; rfl
  have a7 : V.cell? ⟨w.heap.size, 7, none⟩ = some (.slice aX0 an0 ac0) := by rw [ka.cell]; rfl
  have a8 : V.cell? ⟨w.heap.size, 8, none⟩ = some (.int .i64 ae0) := by rw [ka.cell]; rfl
  have a9 : V.cell? ⟨w.heap.size, 9, none⟩ = some (.bool ag1) := by rw [ka.cell]; rfl
  have a10 : V.cell? ⟨w.heap.size, 10, none⟩ = some (.slice aX1 an1 ac1) := by rw [ka.cell]; rfl
  have a11 : V.cell? ⟨w.heap.size, 11, none⟩ = some (.int .i64 ae1) := by rw [ka.cell]; rfl
  have a12 : V.cell? ⟨w.heap.size, 12, none⟩ = some (.bool ag2) := by rw [ka.cell]; rfl
  have a13 : V.cell? ⟨w.heap.size, 13, none⟩ = some (.slice aX2 an2 ac2) := by rw [ka.cell]; rfl
  have a14 : V.cell? ⟨w.heap.size, 14, none⟩ = some (.int .i64 ae2) := by rw [ka.cell]; rfl
  have a15 : V.cell? ⟨w.heap.size, 15, none⟩ = some (.bool ag3) := by rw [ka.cell]; rfl
  have a16 : V.cell? ⟨w.heap.size, 16, none⟩ = some (.slice aX3 an3 ac3) := by rw [ka.cell]; rfl
  have a17 : V.cell? ⟨w.heap.size, 17, none⟩ = some (.int .i64 ae3) := by rw [ka.cell]; rfl
  have b0 : V.cell? ⟨w.heap.size + 1, 0, none⟩ = some (.int .u8 bkd) := by rw [kb.cell]; rfl
  have b1 : V.cell? ⟨w.heap.size + 1, 1, none⟩ = some (.int .i64 bfr) := by rw [kb.cell]; rfl
  have b2 : V.cell? ⟨w.heap.size + 1, 2, none⟩ = some (.int .i64 btt) := by rw [kb.cell]; rfl
  have b3 : V.cell? ⟨w.heap.size + 1, 3, none⟩ = some (.int .i64 bep) := by rw [kb.cell]; rfl
  have b4 : V.cell? ⟨w.heap.size + 1, 4, none⟩ = some (.int .i64 bnu) := by rw [kb.cell]; rfl
  have b5 : V.cell? ⟨w.heap.size + 1, 5, none⟩ = some (.int .i64 bab) := by rw [kb.cell]; rfl
  have b6 : V.cell? ⟨w.heap.size + 1, 6, none⟩ = some (.bool bg0) := by rw [kb.cell]; rfl
  have b7 : V.cell? ⟨w.heap.size + 1, 7, none⟩ = some (.slice bX0 bn0 bc0) := by rw [kb.cell]; rfl
  have b8 : V.cell? ⟨w.heap.size + 1, 8, none⟩ = some (.int .i64 be0) := by rw [kb.cell]; rfl
  have b9 : V.cell? ⟨w.heap.size + 1, 9, none⟩ = some (.bool bg1) := by rw [kb.cell]; rfl
  have b10 : V.cell? ⟨w.heap.size + 1, 10, none⟩ = some (.slice bX1 bn1 bc1) := by rw [kb.cell]; rfl
  have b11 : V.cell? ⟨w.heap.size + 1, 11, none⟩ = some (.int .i64 be1) := by rw [kb.cell]; rfl
  have b12 : V.cell? ⟨w.heap.size + 1, 12, none⟩ = some (.bool bg2) := by rw [kb.cell]; rfl
  have b13 : V.cell? ⟨w.heap.size + 1, 13, none⟩ = some (.slice bX2 bn2 bc2) := by rw [kb.cell]; rfl
  have b14 : V.cell? ⟨w.heap.size + 1, 14, none⟩ = some (.int .i64 be2) := by rw [kb.cell]; rfl
  have b15 : V.cell? ⟨w.heap.size + 1, 15, none⟩ = some (.bool bg3) := by rw [kb.cell]; rfl
  have b16 : V.cell? ⟨w.heap.size + 1, 16, none⟩ = some (.slice bX3 bn3 bc3) := by rw [kb.cell]; rfl
  have b17 : V.cell? ⟨w.heap.size + 1, 17, none⟩ = some (.int .i64 be3) := by rw [kb.cell]; rfl
  have gka := Lib.hid ka
  have gkb := Lib.hid kb
  have hs0 := hB.size
  clear ka kb
  go_enter Try.func11, Try.ntmps11
  go_wp2_with fail
  rw [← hV]
  clear hV
  go_wp2_with fail
  refine (hm _ hB).mono ?_
  rintro en w2 ⟨rfl, hb0⟩
  replace gka := Lib.hid (gka.out.below hb0 gka.out.lt)
  replace gkb := Lib.hid (gkb.out.below hb0 gkb.out.lt)
  have hB0 := hB.trans (hb0.mono hB.size)
  clear a0 b0 a1 b1 a2 b2 a3 b3 a4 b4 a5 b5 a6 b6 a7 b7 a8 b8 a9 b9 a10 b10 a11 b11 a12 b12 a13 b13 a14 b14 a15 b15 a16 b16 a17 b17 hb0 hB
  have a18 : w2.cell? ⟨w.heap.size, 18, none⟩ = some (.bool awa) := by rw [gka.out.cell]; rfl
  have b18 : w2.cell? ⟨w.heap.size + 1, 18, none⟩ = some (.bool bwa) := by rw [gkb.out.cell]; rfl
  have a19 : w2.cell? ⟨w.heap.size, 19, none⟩ = some (.slice aD adn adc) := by rw [gka.out.cell]; rfl
  have b19 : w2.cell? ⟨w.heap.size + 1, 19, none⟩ = some (.slice bD bdn bdc) := by rw [gkb.out.cell]; rfl
  go_wp2_with fail
  refine (hd _ hB0).mono ?_
  rintro en w3 ⟨rfl, hb1⟩
  replace gka := Lib.hid (gka.out.below hb1 gka.out.lt)
  replace gkb := Lib.hid (gkb.out.below hb1 gkb.out.lt)
  have hB1 := hB0.trans (hb1.mono hB0.size)
  clear a18 b18 a19 b19 hb1 hB0
  have a20 : w3.cell? ⟨w.heap.size, 20, none⟩ = some (.bool aeh) := by rw [gka.out.cell]; rfl
  have b20 : w3.cell? ⟨w.heap.size + 1, 20, none⟩ = some (.bool beh) := by rw [gkb.out.cell]; rfl
  have a21 : w3.cell? ⟨w.heap.size, 21, none⟩ = some (.int .i64 ax1) := by rw [gka.out.cell]; rfl
  have b21 : w3.cell? ⟨w.heap.size + 1, 21, none⟩ = some (.int .i64 bx1) := by rw [gkb.out.cell]; rfl
  have a22 : w3.cell? ⟨w.heap.size, 22, none⟩ = some (.int .i64 ax2) := by rw [gka.out.cell]; rfl
  have b22 : w3.cell? ⟨w.heap.size + 1, 22, none⟩ = some (.int .i64 bx2) := by rw [gkb.out.cell]; rfl
  have a23 : w3.cell? ⟨w.heap.size, 23, none⟩ = some (.slice aL aln alc) := by rw [gka.out.cell]; rfl
  have b23 : w3.cell? ⟨w.heap.size + 1, 23, none⟩ = some (.slice bL bln blc) := by rw [gkb.out.cell]; rfl
  go_wp2_with fail
  refine (hl _ hB1).mono ?_
  rintro en w4 ⟨rfl, hb2⟩
  replace gka := Lib.hid (gka.out.below hb2 gka.out.lt)
  replace gkb := Lib.hid (gkb.out.below hb2 gkb.out.lt)
  have hB2 := hB1.trans (hb2.mono hB1.size)
  clear a20 b20 a21 b21 a22 b22 a23 b23 hb2 hB1
  go_wp2
  go_ret
  exact ⟨rfl, hB2⟩
end Go.Proofs.Ytjmhefkmpfkpbaa
