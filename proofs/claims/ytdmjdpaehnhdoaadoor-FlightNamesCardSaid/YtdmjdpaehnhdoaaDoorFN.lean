/- Flight's Door: mail.Check: a way each -/
import Derived.Test.YtdmjdpaehnhdoaaDoorFM
import Derived.Test.YtdmjdpaehnhdoaaDoorKA
import Derived.BigRegion
namespace Go.Proofs.YtdmjdpaehnhdoaaDoor
open Go.ChangeShapes Go.WideShapes Go.ChangeAt Go.RowKit
set_option linter.unusedSimpArgs false
set_option linter.unusedVariables false
abbrev qn0 (akd afr att aep anu aab : Int) (ag0 : Bool) (aX0 : Option Addr) (an0 ac0 : Nat) (ae0 : Int) (ag1 : Bool) (aX1 : Option Addr) (an1 ac1 : Nat) (ae1 : Int) (ag2 : Bool) (aX2 : Option Addr) (an2 ac2 : Nat) (ae2 : Int) (ag3 : Bool) (aX3 : Option Addr) (an3 ac3 : Nat) (ae3 : Int) (awa : Bool) (aD : Option Addr) (adn adc : Nat) (aeh : Bool) (ax1 ax2 : Int) (aL : Option Addr) (aln alc : Nat) : Array Value := #[.int .u8 akd, .int .i64 afr, .int .i64 att, .int .i64 aep, .int .i64 anu, .int .i64 aab, .bool ag0, .slice aX0 an0 ac0, .int .i64 ae0, .bool ag1, .slice aX1 an1 ac1, .int .i64 ae1, .bool ag2, .slice aX2 an2 ac2, .int .i64 ae2, .bool ag3, .slice aX3 an3 ac3, .int .i64 ae3, .bool awa, .slice aD adn adc, .bool aeh, .int .i64 ax1, .int .i64 ax2, .slice aL aln alc]
abbrev qn1 (bkd bfr btt bep bnu bab : Int) (bg0 : Bool) (bX0 : Option Addr) (bn0 bc0 : Nat) (be0 : Int) (bg1 : Bool) (bX1 : Option Addr) (bn1 bc1 : Nat) (be1 : Int) (bg2 : Bool) (bX2 : Option Addr) (bn2 bc2 : Nat) (be2 : Int) (bg3 : Bool) (bX3 : Option Addr) (bn3 bc3 : Nat) (be3 : Int) (bwa : Bool) (bD : Option Addr) (bdn bdc : Nat) (beh : Bool) (bx1 bx2 : Int) (bL : Option Addr) (bln blc : Nat) : Array Value := #[.int .u8 bkd, .int .i64 bfr, .int .i64 btt, .int .i64 bep, .int .i64 bnu, .int .i64 bab, .bool bg0, .slice bX0 bn0 bc0, .int .i64 be0, .bool bg1, .slice bX1 bn1 bc1, .int .i64 be1, .bool bg2, .slice bX2 bn2 bc2, .int .i64 be2, .bool bg3, .slice bX3 bn3 bc3, .int .i64 be3, .bool bwa, .slice bD bdn bdc, .bool beh, .int .i64 bx1, .int .i64 bx2, .slice bL bln blc]
abbrev qn2 (afr att aep anu aab : Int) (ag0 : Bool) (aX0 : Option Addr) (an0 ac0 : Nat) (ae0 : Int) (ag1 : Bool) (aX1 : Option Addr) (an1 ac1 : Nat) (ae1 : Int) (ag2 : Bool) (aX2 : Option Addr) (an2 ac2 : Nat) (ae2 : Int) (ag3 : Bool) (aX3 : Option Addr) (an3 ac3 : Nat) (ae3 : Int) (awa : Bool) (aD : Option Addr) (adn adc : Nat) (aeh : Bool) (ax1 ax2 : Int) (aL : Option Addr) (aln alc : Nat) : Array Value := #[.int .u8 1, .int .i64 afr, .int .i64 att, .int .i64 aep, .int .i64 anu, .int .i64 aab, .bool ag0, .slice aX0 an0 ac0, .int .i64 ae0, .bool ag1, .slice aX1 an1 ac1, .int .i64 ae1, .bool ag2, .slice aX2 an2 ac2, .int .i64 ae2, .bool ag3, .slice aX3 an3 ac3, .int .i64 ae3, .bool awa, .slice aD adn adc, .bool aeh, .int .i64 ax1, .int .i64 ax2, .slice aL aln alc]
abbrev qn3 (afr att aep anu aab : Int) (ag0 : Bool) (aX0 : Option Addr) (an0 ac0 : Nat) (ae0 : Int) (ag1 : Bool) (aX1 : Option Addr) (an1 ac1 : Nat) (ae1 : Int) (ag2 : Bool) (aX2 : Option Addr) (an2 ac2 : Nat) (ae2 : Int) (ag3 : Bool) (aX3 : Option Addr) (an3 ac3 : Nat) (ae3 : Int) (awa : Bool) (aD : Option Addr) (adn adc : Nat) (aeh : Bool) (ax1 ax2 : Int) (aL : Option Addr) (aln alc : Nat) : Array Value := #[.int .u8 2, .int .i64 afr, .int .i64 att, .int .i64 aep, .int .i64 anu, .int .i64 aab, .bool ag0, .slice aX0 an0 ac0, .int .i64 ae0, .bool ag1, .slice aX1 an1 ac1, .int .i64 ae1, .bool ag2, .slice aX2 an2 ac2, .int .i64 ae2, .bool ag3, .slice aX3 an3 ac3, .int .i64 ae3, .bool awa, .slice aD adn adc, .bool aeh, .int .i64 ax1, .int .i64 ax2, .slice aL aln alc]
abbrev qn4 (afr att aep anu : Int) (ag0 : Bool) (aX0 : Option Addr) (an0 ac0 : Nat) (ae0 : Int) (ag1 : Bool) (aX1 : Option Addr) (an1 ac1 : Nat) (ae1 : Int) : Array Value := #[.int .u8 1, .int .i64 afr, .int .i64 att, .int .i64 aep, .int .i64 anu, .int .i64 0, .bool ag0, .slice aX0 an0 ac0, .int .i64 ae0, .bool ag1, .slice aX1 an1 ac1, .int .i64 ae1, .bool false, .slice none 0 0, .int .i64 0, .bool false, .slice none 0 0, .int .i64 0, .bool false, .slice none 0 0, .bool false, .int .i64 0, .int .i64 0, .slice none 0 0]
abbrev qn5 (afr att aep anu : Int) (ag2 : Bool) (aX2 : Option Addr) (an2 ac2 : Nat) (ae2 : Int) (ag3 : Bool) (aX3 : Option Addr) (an3 ac3 : Nat) (ae3 : Int) : Array Value := #[.int .u8 2, .int .i64 afr, .int .i64 att, .int .i64 aep, .int .i64 anu, .int .i64 0, .bool false, .slice none 0 0, .int .i64 0, .bool false, .slice none 0 0, .int .i64 0, .bool ag2, .slice aX2 an2 ac2, .int .i64 ae2, .bool ag3, .slice aX3 an3 ac3, .int .i64 ae3, .bool false, .slice none 0 0, .bool false, .int .i64 0, .int .i64 0, .slice none 0 0]
abbrev qn6 (afr att aep anu : Int) : Array Value := #[.int .u8 1, .int .i64 afr, .int .i64 att, .int .i64 aep, .int .i64 anu, .int .i64 0, .bool false, .slice none 0 0, .int .i64 0, .bool false, .slice none 0 0, .int .i64 0, .bool false, .slice none 0 0, .int .i64 0, .bool false, .slice none 0 0, .int .i64 0, .bool false, .slice none 0 0, .bool false, .int .i64 0, .int .i64 0, .slice none 0 0]
abbrev qn7 (afr att aep anu : Int) : Array Value := #[.int .u8 2, .int .i64 afr, .int .i64 att, .int .i64 aep, .int .i64 anu, .int .i64 0, .bool false, .slice none 0 0, .int .i64 0, .bool false, .slice none 0 0, .int .i64 0, .bool false, .slice none 0 0, .int .i64 0, .bool false, .slice none 0 0, .int .i64 0, .bool false, .slice none 0 0, .bool false, .int .i64 0, .int .i64 0, .slice none 0 0]
abbrev qn8 : Array Value := #[.int .u8 0, .int .i64 0, .int .i64 0, .int .i64 0, .int .i64 0, .int .i64 0, .bool false, .slice none 0 0, .int .i64 0, .bool false, .slice none 0 0, .int .i64 0, .bool false, .slice none 0 0, .int .i64 0, .bool false, .slice none 0 0, .int .i64 0, .bool false, .slice none 0 0, .bool false, .int .i64 0, .int .i64 0, .slice none 0 0]
set_option maxRecDepth 100000 in
set_option maxHeartbeats 16000000 in
theorem swl {akd afr att aep anu aab : Int} {ag0 : Bool} {aX0 : Option Addr} {an0 ac0 : Nat} {ae0 : Int} {ag1 : Bool} {aX1 : Option Addr} {an1 ac1 : Nat} {ae1 : Int} {ag2 : Bool} {aX2 : Option Addr} {an2 ac2 : Nat} {ae2 : Int} {ag3 : Bool} {aX3 : Option Addr} {an3 ac3 : Nat} {ae3 : Int} {awa : Bool} {aD : Option Addr} {adn adc : Nat} {aeh : Bool} {ax1 ax2 : Int} {aL : Option Addr} {aln alc : Nat} {bkd bfr btt bep bnu bab : Int} {bg0 : Bool} {bX0 : Option Addr} {bn0 bc0 : Nat} {be0 : Int} {bg1 : Bool} {bX1 : Option Addr} {bn1 bc1 : Nat} {be1 : Int} {bg2 : Bool} {bX2 : Option Addr} {bn2 bc2 : Nat} {be2 : Int} {bg3 : Bool} {bX3 : Option Addr} {bn3 bc3 : Nat} {be3 : Int} {bwa : Bool} {bD : Option Addr} {bdn bdc : Nat} {beh : Bool} {bx1 bx2 : Int} {bL : Option Addr} {bln blc : Nat} (w : World) (d0 : (akd == bkd) = true) (d1 : (afr == bfr) = true) (d2 : (att == btt) = true) (d3 : (aep == bep) = true) (d4 : (anu == bnu) = true) (d5 : (aab == bab) = true) (hm : ∀ w', Below w.heap.size w w' → Calls Tryd.prog 24 #[.agg #[.bool ag0, .slice aX0 an0 ac0, .int .i64 ae0, .bool ag1, .slice aX1 an1 ac1, .int .i64 ae1, .bool ag2, .slice aX2 an2 ac2, .int .i64 ae2, .bool ag3, .slice aX3 an3 ac3, .int .i64 ae3], .agg #[.bool bg0, .slice bX0 bn0 bc0, .int .i64 be0, .bool bg1, .slice bX1 bn1 bc1, .int .i64 be1, .bool bg2, .slice bX2 bn2 bc2, .int .i64 be2, .bool bg3, .slice bX3 bn3 bc3, .int .i64 be3]] w' fun en w'' => en = .returned (.bool true) ∧ Below w'.heap.size w' w'') (dw : (awa == bwa) = true) (hd : ∀ w', Below w.heap.size w w' → Calls Tryd.prog 96 #[.slice aD adn adc, .slice bD bdn bdc] w' fun en w'' => en = .returned (.bool true) ∧ Below w'.heap.size w' w'') (y0 : (aeh == beh) = true) (y1 : (ax1 == bx1) = true) (y2 : (ax2 == bx2) = true) (Q : Bool) (hl : ∀ w', Below w.heap.size w w' → Calls Tryd.prog 86 #[.slice aL aln alc, .slice bL bln blc] w' fun en w'' => en = .returned (.bool Q) ∧ Below w'.heap.size w' w'') : Calls Tryd.prog 66 #[.agg (qn0 akd afr att aep anu aab ag0 aX0 an0 ac0 ae0 ag1 aX1 an1 ac1 ae1 ag2 aX2 an2 ac2 ae2 ag3 aX3 an3 ac3 ae3 awa aD adn adc aeh ax1 ax2 aL aln alc), .agg (qn1 bkd bfr btt bep bnu bab bg0 bX0 bn0 bc0 be0 bg1 bX1 bn1 bc1 be1 bg2 bX2 bn2 bc2 be2 bg3 bX3 bn3 bc3 be3 bwa bD bdn bdc beh bx1 bx2 bL bln blc)] w fun en w' => en = .returned (.bool Q) ∧ Below w.heap.size w w' := by
  obtain ⟨V, hV⟩ : ∃ V, V = (w.alloc (.cells (qn0 akd afr att aep anu aab ag0 aX0 an0 ac0 ae0 ag1 aX1 an1 ac1 ae1 ag2 aX2 an2 ac2 ae2 ag3 aX3 an3 ac3 ae3 awa aD adn adc aeh ax1 ax2 aL aln alc) 32)).alloc (.cells (qn1 bkd bfr btt bep bnu bab bg0 bX0 bn0 bc0 be0 bg1 bX1 bn1 bc1 be1 bg2 bX2 bn2 bc2 be2 bg3 bX3 bn3 bc3 be3 bwa bD bdn bdc beh bx1 bx2 bL bln blc) 32) := ⟨_, rfl⟩
  have hB : Below w.heap.size w V := by rw [hV]; exact ((Below.refl _ _).alloc (Nat.le_refl _) _).alloc (by simp) _
  have ka : Blk V w.heap.size 32 (qn0 akd afr att aep anu aab ag0 aX0 an0 ac0 ae0 ag1 aX1 an1 ac1 ae1 ag2 aX2 an2 ac2 ae2 ag3 aX3 an3 ac3 ae3 awa aD adn adc aeh ax1 ax2 aL aln alc) := by rw [hV]; exact (Blk.new w _ _).alloc _
  have kb : Blk V (w.heap.size + 1) 32 (qn1 bkd bfr btt bep bnu bab bg0 bX0 bn0 bc0 be0 bg1 bX1 bn1 bc1 be1 bg2 bX2 bn2 bc2 be2 bg3 bX3 bn3 bc3 be3 bwa bD bdn bdc beh bx1 bx2 bL bln blc) := by rw [hV]; simpa using Blk.new (w.alloc (.cells (qn0 akd afr att aep anu aab ag0 aX0 an0 ac0 ae0 ag1 aX1 an1 ac1 ae1 ag2 aX2 an2 ac2 ae2 ag3 aX3 an3 ac3 ae3 awa aD adn adc aeh ax1 ax2 aL aln alc) 32)) 32 (qn1 bkd bfr btt bep bnu bab bg0 bX0 bn0 bc0 be0 bg1 bX1 bn1 bc1 be1 bg2 bX2 bn2 bc2 be2 bg3 bX3 bn3 bc3 be3 bwa bD bdn bdc beh bx1 bx2 bL bln blc)
  have a0 : V.cell? ⟨w.heap.size, 0, none⟩ = some (.int .u8 akd) := by rw [ka.cell]; rfl
  have a1 : V.cell? ⟨w.heap.size, 1, none⟩ = some (.int .i64 afr) := by rw [ka.cell]; rfl
  have a2 : V.cell? ⟨w.heap.size, 2, none⟩ = some (.int .i64 att) := by rw [ka.cell]; rfl
  have a3 : V.cell? ⟨w.heap.size, 3, none⟩ = some (.int .i64 aep) := by rw [ka.cell]; rfl
  have a4 : V.cell? ⟨w.heap.size, 4, none⟩ = some (.int .i64 anu) := by rw [ka.cell]; rfl
  have a5 : V.cell? ⟨w.heap.size, 5, none⟩ = some (.int .i64 aab) := by rw [ka.cell]; rfl
  have a6 : V.cell? ⟨w.heap.size, 6, none⟩ = some (.bool ag0) := by rw [ka.cell]; rfl
  have a7 : V.cell? ⟨w.heap.size, 7, none⟩ = some (.slice aX0 an0 ac0) := by rw [ka.cell]; rfl
  have a8 : V.cell? ⟨w.heap.size, 8, none⟩ = some (.int .i64 ae0) := by rw [ka.cell]; rfl
  have a9 : V.cell? ⟨w.heap.size, 9, none⟩ = some (.bool ag1) := by rw [ka.cell]; rfl
  have a10 : V.cell? ⟨w.heap.size, 10, none⟩ = some (.slice aX1 an1 ac1) := by rw [ka.cell]; rfl
  have a11 : V.cell? ⟨w.heap.size, 11, none⟩ = some (.int .i64 ae1) := by rw [ka.cell]; rfl
  have a12 : V.cell? ⟨w.heap.size, 12, none⟩ = some (.bool ag2) := by rw [ka.cell]; rfl
  have a13 : V.cell? ⟨w.heap.size, 13, none⟩ = some (.slice aX2 an2 ac2) := by rw [ka.cell]; rfl
  have a14 : V.cell? ⟨w.heap.size, 14, none⟩ = some (.int .i64 ae2) := by rw [ka.cell]; rfl
  have a15 : V.cell? ⟨w.heap.size, 15, none⟩ = some (.bool ag3) := by rw [ka.cell]; rfl
  have a16 : V.cell? ⟨w.heap.size, 16, none⟩ = some (.slice aX3 an3 ac3) := by rw [ka.cell]; rfl
  have a17 : V.cell? ⟨w.heap.size, 17, none⟩ = some (.int .i64 ae3) := by rw [ka.cell]; rfl
  have b0 : V.cell? ⟨w.heap.size + 1, 0, none⟩ = some (.int .u8 bkd) := by rw [kb.cell]; rfl
  have b1 : V.cell? ⟨w.heap.size + 1, 1, none⟩ = some (.int .i64 bfr) := by rw [kb.cell]; rfl
  have b2 : V.cell? ⟨w.heap.size + 1, 2, none⟩ = some (.int .i64 btt) := by rw [kb.cell]; rfl
  have b3 : V.cell? ⟨w.heap.size + 1, 3, none⟩ = some (.int .i64 bep) := by rw [kb.cell]; rfl
  have b4 : V.cell? ⟨w.heap.size + 1, 4, none⟩ = some (.int .i64 bnu) := by rw [kb.cell]; rfl
  have b5 : V.cell? ⟨w.heap.size + 1, 5, none⟩ = some (.int .i64 bab) := by rw [kb.cell]; rfl
  have b6 : V.cell? ⟨w.heap.size + 1, 6, none⟩ = some (.bool bg0) := by rw [kb.cell]; rfl
  have b7 : V.cell? ⟨w.heap.size + 1, 7, none⟩ = some (.slice bX0 bn0 bc0) := by rw [kb.cell]; rfl
  have b8 : V.cell? ⟨w.heap.size + 1, 8, none⟩ = some (.int .i64 be0) := by rw [kb.cell]; rfl
  have b9 : V.cell? ⟨w.heap.size + 1, 9, none⟩ = some (.bool bg1) := by rw [kb.cell]; rfl
  have b10 : V.cell? ⟨w.heap.size + 1, 10, none⟩ = some (.slice bX1 bn1 bc1) := by rw [kb.cell]; rfl
  have b11 : V.cell? ⟨w.heap.size + 1, 11, none⟩ = some (.int .i64 be1) := by rw [kb.cell]; rfl
  have b12 : V.cell? ⟨w.heap.size + 1, 12, none⟩ = some (.bool bg2) := by rw [kb.cell]; rfl
  have b13 : V.cell? ⟨w.heap.size + 1, 13, none⟩ = some (.slice bX2 bn2 bc2) := by rw [kb.cell]; rfl
  have b14 : V.cell? ⟨w.heap.size + 1, 14, none⟩ = some (.int .i64 be2) := by rw [kb.cell]; rfl
  have b15 : V.cell? ⟨w.heap.size + 1, 15, none⟩ = some (.bool bg3) := by rw [kb.cell]; rfl
  have b16 : V.cell? ⟨w.heap.size + 1, 16, none⟩ = some (.slice bX3 bn3 bc3) := by rw [kb.cell]; rfl
  have b17 : V.cell? ⟨w.heap.size + 1, 17, none⟩ = some (.int .i64 be3) := by rw [kb.cell]; rfl
  have gka := Lib.hid ka
  have gkb := Lib.hid kb
  have hs0 := hB.size
  clear ka kb
  go_enter Tryd.func66, Tryd.ntmps66
  go_wp2_with fail
  rw [← hV]
  clear hV
  go_wp2_with fail
  refine (hm _ hB).mono ?_
  rintro en w2 ⟨rfl, hb0⟩
  replace gka := Lib.hid (gka.out.below hb0 gka.out.lt)
  replace gkb := Lib.hid (gkb.out.below hb0 gkb.out.lt)
  have hB0 := hB.trans (hb0.mono hB.size)
  clear a0 b0 a1 b1 a2 b2 a3 b3 a4 b4 a5 b5 a6 b6 a7 b7 a8 b8 a9 b9 a10 b10 a11 b11 a12 b12 a13 b13 a14 b14 a15 b15 a16 b16 a17 b17 hb0 hB
  have a18 : w2.cell? ⟨w.heap.size, 18, none⟩ = some (.bool awa) := by rw [gka.out.cell]; rfl
  have b18 : w2.cell? ⟨w.heap.size + 1, 18, none⟩ = some (.bool bwa) := by rw [gkb.out.cell]; rfl
  have a19 : w2.cell? ⟨w.heap.size, 19, none⟩ = some (.slice aD adn adc) := by rw [gka.out.cell]; rfl
  have b19 : w2.cell? ⟨w.heap.size + 1, 19, none⟩ = some (.slice bD bdn bdc) := by rw [gkb.out.cell]; rfl
  go_wp2_with fail
  refine (hd _ hB0).mono ?_
  rintro en w3 ⟨rfl, hb1⟩
  replace gka := Lib.hid (gka.out.below hb1 gka.out.lt)
  replace gkb := Lib.hid (gkb.out.below hb1 gkb.out.lt)
  have hB1 := hB0.trans (hb1.mono hB0.size)
  clear a18 b18 a19 b19 hb1 hB0
  have a20 : w3.cell? ⟨w.heap.size, 20, none⟩ = some (.bool aeh) := by rw [gka.out.cell]; rfl
  have b20 : w3.cell? ⟨w.heap.size + 1, 20, none⟩ = some (.bool beh) := by rw [gkb.out.cell]; rfl
  have a21 : w3.cell? ⟨w.heap.size, 21, none⟩ = some (.int .i64 ax1) := by rw [gka.out.cell]; rfl
  have b21 : w3.cell? ⟨w.heap.size + 1, 21, none⟩ = some (.int .i64 bx1) := by rw [gkb.out.cell]; rfl
  have a22 : w3.cell? ⟨w.heap.size, 22, none⟩ = some (.int .i64 ax2) := by rw [gka.out.cell]; rfl
  have b22 : w3.cell? ⟨w.heap.size + 1, 22, none⟩ = some (.int .i64 bx2) := by rw [gkb.out.cell]; rfl
  have a23 : w3.cell? ⟨w.heap.size, 23, none⟩ = some (.slice aL aln alc) := by rw [gka.out.cell]; rfl
  have b23 : w3.cell? ⟨w.heap.size + 1, 23, none⟩ = some (.slice bL bln blc) := by rw [gkb.out.cell]; rfl
  go_wp2_with fail
  refine (hl _ hB1).mono ?_
  rintro en w4 ⟨rfl, hb2⟩
  replace gka := Lib.hid (gka.out.below hb2 gka.out.lt)
  replace gkb := Lib.hid (gkb.out.below hb2 gkb.out.lt)
  have hB2 := hB1.trans (hb2.mono hB1.size)
  clear a20 b20 a21 b21 a22 b22 a23 b23 hb2 hB1
  go_wp2
  go_ret
  exact ⟨rfl, hB2⟩
set_option maxRecDepth 100000 in
set_option maxHeartbeats 16000000 in
theorem used1 {afr att aep anu aab : Int} {ag0 : Bool} {aX0 : Option Addr} {an0 ac0 : Nat} {ae0 : Int} {ag1 : Bool} {aX1 : Option Addr} {an1 ac1 : Nat} {ae1 : Int} {ag2 : Bool} {aX2 : Option Addr} {an2 ac2 : Nat} {ae2 : Int} {ag3 : Bool} {aX3 : Option Addr} {an3 ac3 : Nat} {ae3 : Int} {awa : Bool} {aD : Option Addr} {adn adc : Nat} {aeh : Bool} {ax1 ax2 : Int} {aL : Option Addr} {aln alc : Nat} (w : World) : Calls Tryd.prog 67 #[.agg (qn2 afr att aep anu aab ag0 aX0 an0 ac0 ae0 ag1 aX1 an1 ac1 ae1 ag2 aX2 an2 ac2 ae2 ag3 aX3 an3 ac3 ae3 awa aD adn adc aeh ax1 ax2 aL aln alc)] w fun en w' => en = .returned (.agg (qn4 afr att aep anu ag0 aX0 an0 ac0 ae0 ag1 aX1 an1 ac1 ae1)) ∧ Below w.heap.size w w' := by
  obtain ⟨V, hV⟩ : ∃ V, V = (w.alloc (.cells (qn2 afr att aep anu aab ag0 aX0 an0 ac0 ae0 ag1 aX1 an1 ac1 ae1 ag2 aX2 an2 ac2 ae2 ag3 aX3 an3 ac3 ae3 awa aD adn adc aeh ax1 ax2 aL aln alc) 32)).alloc (.cells qn8 32) := ⟨_, rfl⟩
  have hB : Below w.heap.size w V := by rw [hV]; exact ((Below.refl _ _).alloc (Nat.le_refl _) _).alloc (by simp) _
  have ka : Blk V w.heap.size 32 (qn2 afr att aep anu aab ag0 aX0 an0 ac0 ae0 ag1 aX1 an1 ac1 ae1 ag2 aX2 an2 ac2 ae2 ag3 aX3 an3 ac3 ae3 awa aD adn adc aeh ax1 ax2 aL aln alc) := by rw [hV]; exact (Blk.new w _ _).alloc _
  have kr : Blk V (w.heap.size + 1) 32 qn8 := by rw [hV]; simpa using Blk.new (w.alloc (.cells (qn2 afr att aep anu aab ag0 aX0 an0 ac0 ae0 ag1 aX1 an1 ac1 ae1 ag2 aX2 an2 ac2 ae2 ag3 aX3 an3 ac3 ae3 awa aD adn adc aeh ax1 ax2 aL aln alc) 32)) 32 qn8
  have hVs : V.heap.size = w.heap.size + 2 := by rw [hV]; simp
  go_enter Tryd.func67, Tryd.ntmps67
  go_upto_region 1 with (fail)
  rw [← hV]
  clear hV
  have a0 : V.cell? ⟨w.heap.size, 0, none⟩ = some (.int .u8 1) := by rw [ka.cell]; rfl
  have a1 : V.cell? ⟨w.heap.size, 1, none⟩ = some (.int .i64 afr) := by rw [ka.cell]; rfl
  have a2 : V.cell? ⟨w.heap.size, 2, none⟩ = some (.int .i64 att) := by rw [ka.cell]; rfl
  have a3 : V.cell? ⟨w.heap.size, 3, none⟩ = some (.int .i64 aep) := by rw [ka.cell]; rfl
  have a4 : V.cell? ⟨w.heap.size, 4, none⟩ = some (.int .i64 anu) := by rw [ka.cell]; rfl
  have hg0 : (V.alloc (.cells qn8 32)).heap[w.heap.size + 2]? = some (.cells qn8 32 (0, 0)) := by rw [← hVs]; exact Blk.new V 32 qn8
  go_upto_region 2 with (refine wpList_store_row rfl 32 _ _ rfl (w.heap.size + 2) (qn6 afr att aep anu) rfl rfl 32 qn8 hg0 (by kernel_rfl) rfl (by simp [Value.oneCell']) ?_)
  clear a0 a1 a2 a3 a4
  obtain ⟨U, hU⟩ : ∃ U, U = (V.alloc (.cells qn8 32)).setRow (w.heap.size + 2) (qn6 afr att aep anu) := ⟨_, rfl⟩
  have kn : Blk (V.alloc (.cells qn8 32)) (w.heap.size + 2) 32 qn8 := by rw [← hVs]; exact Blk.new V 32 qn8
  have ko := kn.setRow (qn6 afr att aep anu)
  replace ka := (ka.alloc (.cells qn8 32)).setRow_far (k := (w.heap.size + 2)) (by omega) (qn6 afr att aep anu)
  replace kr := (kr.alloc (.cells qn8 32)).setRow_far (k := (w.heap.size + 2)) (by omega) (qn6 afr att aep anu)
  replace hB := below_setRow (g := (w.heap.size + 2)) (hB.alloc (by omega) (.cells qn8 32)) (by omega) (qn6 afr att aep anu)
  rw [← hU] at ko ka kr hB ⊢
  clear hU kn hVs
  have a0 : U.cell? ⟨w.heap.size, 0, none⟩ = some (.int .u8 1) := by rw [ka.cell]; rfl
  go_upto_region 9 with (fail)
  clear a0
  have a6 : U.cell? ⟨w.heap.size, 6, none⟩ = some (.bool ag0) := by rw [ka.cell]; rfl
  have a7 : U.cell? ⟨w.heap.size, 7, none⟩ = some (.slice aX0 an0 ac0) := by rw [ka.cell]; rfl
  have a8 : U.cell? ⟨w.heap.size, 8, none⟩ = some (.int .i64 ae0) := by rw [ka.cell]; rfl
  have a9 : U.cell? ⟨w.heap.size, 9, none⟩ = some (.bool ag1) := by rw [ka.cell]; rfl
  have a10 : U.cell? ⟨w.heap.size, 10, none⟩ = some (.slice aX1 an1 ac1) := by rw [ka.cell]; rfl
  have a11 : U.cell? ⟨w.heap.size, 11, none⟩ = some (.int .i64 ae1) := by rw [ka.cell]; rfl
  have o6 : U.cell? ⟨(w.heap.size + 2), 6, none⟩ = some (.bool false) := by rw [ko.cell]; rfl
  have o7 : U.cell? ⟨(w.heap.size + 2), 7, none⟩ = some (.slice none 0 0) := by rw [ko.cell]; rfl
  have o8 : U.cell? ⟨(w.heap.size + 2), 8, none⟩ = some (.int .i64 0) := by rw [ko.cell]; rfl
  have o9 : U.cell? ⟨(w.heap.size + 2), 9, none⟩ = some (.bool false) := by rw [ko.cell]; rfl
  have o10 : U.cell? ⟨(w.heap.size + 2), 10, none⟩ = some (.slice none 0 0) := by rw [ko.cell]; rfl
  have o11 : U.cell? ⟨(w.heap.size + 2), 11, none⟩ = some (.int .i64 0) := by rw [ko.cell]; rfl
  have of6 : U.frozen? ⟨(w.heap.size + 2), 6, none⟩ = false := ko.frozen 6
  have of7 : U.frozen? ⟨(w.heap.size + 2), 7, none⟩ = false := ko.frozen 7
  have of8 : U.frozen? ⟨(w.heap.size + 2), 8, none⟩ = false := ko.frozen 8
  have of9 : U.frozen? ⟨(w.heap.size + 2), 9, none⟩ = false := ko.frozen 9
  have of10 : U.frozen? ⟨(w.heap.size + 2), 10, none⟩ = false := ko.frozen 10
  have of11 : U.frozen? ⟨(w.heap.size + 2), 11, none⟩ = false := ko.frozen 11
  go_region
  obtain ⟨X, hX⟩ : ∃ X, X = ((((((U.setCell ⟨(w.heap.size + 2), 6, none⟩ (.bool ag0)).setCell ⟨(w.heap.size + 2), 7, none⟩ (.slice aX0 an0 ac0)).setCell ⟨(w.heap.size + 2), 8, none⟩ (.int .i64 ae0)).setCell ⟨(w.heap.size + 2), 9, none⟩ (.bool ag1)).setCell ⟨(w.heap.size + 2), 10, none⟩ (.slice aX1 an1 ac1)).setCell ⟨(w.heap.size + 2), 11, none⟩ (.int .i64 ae1)).drew := ⟨_, rfl⟩
  have ko0 : Blk _ (w.heap.size + 2) 32 #[.int .u8 1, .int .i64 afr, .int .i64 att, .int .i64 aep, .int .i64 anu, .int .i64 0, .bool ag0, .slice none 0 0, .int .i64 0, .bool false, .slice none 0 0, .int .i64 0, .bool false, .slice none 0 0, .int .i64 0, .bool false, .slice none 0 0, .int .i64 0, .bool false, .slice none 0 0, .bool false, .int .i64 0, .int .i64 0, .slice none 0 0] := (show _ from by simpa using ko.set_ 6 (.bool ag0))
  have ko1 : Blk _ (w.heap.size + 2) 32 #[.int .u8 1, .int .i64 afr, .int .i64 att, .int .i64 aep, .int .i64 anu, .int .i64 0, .bool ag0, .slice aX0 an0 ac0, .int .i64 0, .bool false, .slice none 0 0, .int .i64 0, .bool false, .slice none 0 0, .int .i64 0, .bool false, .slice none 0 0, .int .i64 0, .bool false, .slice none 0 0, .bool false, .int .i64 0, .int .i64 0, .slice none 0 0] := (show _ from by simpa using ko0.set_ 7 (.slice aX0 an0 ac0))
  have ko2 : Blk _ (w.heap.size + 2) 32 #[.int .u8 1, .int .i64 afr, .int .i64 att, .int .i64 aep, .int .i64 anu, .int .i64 0, .bool ag0, .slice aX0 an0 ac0, .int .i64 ae0, .bool false, .slice none 0 0, .int .i64 0, .bool false, .slice none 0 0, .int .i64 0, .bool false, .slice none 0 0, .int .i64 0, .bool false, .slice none 0 0, .bool false, .int .i64 0, .int .i64 0, .slice none 0 0] := (show _ from by simpa using ko1.set_ 8 (.int .i64 ae0))
  have ko3 : Blk _ (w.heap.size + 2) 32 #[.int .u8 1, .int .i64 afr, .int .i64 att, .int .i64 aep, .int .i64 anu, .int .i64 0, .bool ag0, .slice aX0 an0 ac0, .int .i64 ae0, .bool ag1, .slice none 0 0, .int .i64 0, .bool false, .slice none 0 0, .int .i64 0, .bool false, .slice none 0 0, .int .i64 0, .bool false, .slice none 0 0, .bool false, .int .i64 0, .int .i64 0, .slice none 0 0] := (show _ from by simpa using ko2.set_ 9 (.bool ag1))
  have ko4 : Blk _ (w.heap.size + 2) 32 #[.int .u8 1, .int .i64 afr, .int .i64 att, .int .i64 aep, .int .i64 anu, .int .i64 0, .bool ag0, .slice aX0 an0 ac0, .int .i64 ae0, .bool ag1, .slice aX1 an1 ac1, .int .i64 0, .bool false, .slice none 0 0, .int .i64 0, .bool false, .slice none 0 0, .int .i64 0, .bool false, .slice none 0 0, .bool false, .int .i64 0, .int .i64 0, .slice none 0 0] := (show _ from by simpa using ko3.set_ 10 (.slice aX1 an1 ac1))
  have ko5 : Blk _ (w.heap.size + 2) 32 (qn4 afr att aep anu ag0 aX0 an0 ac0 ae0 ag1 aX1 an1 ac1 ae1) := (show _ from by simpa using ko4.set_ 11 (.int .i64 ae1))
  have kx : Blk X (w.heap.size + 2) 32 (qn4 afr att aep anu ag0 aX0 an0 ac0 ae0 ag1 aX1 an1 ac1 ae1) := by rw [hX]; exact ko5.drew
  have kz : Blk X (w.heap.size + 1) 32 qn8 := by rw [hX]; exact ((((((kr.far (p := ⟨(w.heap.size + 2), 6, none⟩) (by show _ ≠ w.heap.size + 2; omega) (.bool ag0)).far (p := ⟨(w.heap.size + 2), 7, none⟩) (by show _ ≠ w.heap.size + 2; omega) (.slice aX0 an0 ac0)).far (p := ⟨(w.heap.size + 2), 8, none⟩) (by show _ ≠ w.heap.size + 2; omega) (.int .i64 ae0)).far (p := ⟨(w.heap.size + 2), 9, none⟩) (by show _ ≠ w.heap.size + 2; omega) (.bool ag1)).far (p := ⟨(w.heap.size + 2), 10, none⟩) (by show _ ≠ w.heap.size + 2; omega) (.slice aX1 an1 ac1)).far (p := ⟨(w.heap.size + 2), 11, none⟩) (by show _ ≠ w.heap.size + 2; omega) (.int .i64 ae1)).drew
  have hx : Below w.heap.size w X := by rw [hX]; exact (Below.drew ((((((hB.setCell (p := ⟨(w.heap.size + 2), 6, none⟩) (by show _ ≤ w.heap.size + 2; omega) (.bool ag0)).setCell (p := ⟨(w.heap.size + 2), 7, none⟩) (by show _ ≤ w.heap.size + 2; omega) (.slice aX0 an0 ac0)).setCell (p := ⟨(w.heap.size + 2), 8, none⟩) (by show _ ≤ w.heap.size + 2; omega) (.int .i64 ae0)).setCell (p := ⟨(w.heap.size + 2), 9, none⟩) (by show _ ≤ w.heap.size + 2; omega) (.bool ag1)).setCell (p := ⟨(w.heap.size + 2), 10, none⟩) (by show _ ≤ w.heap.size + 2; omega) (.slice aX1 an1 ac1)).setCell (p := ⟨(w.heap.size + 2), 11, none⟩) (by show _ ≤ w.heap.size + 2; omega) (.int .i64 ae1)))
  rw [← hX]
  clear hX hB kr ko ka ko0 a6 o6 of6 ko1 a7 o7 of7 ko2 a8 o8 of8 ko3 a9 o9 of9 ko4 a10 o10 of10 ko5 a11 o11 of11
  go_upto_region 15 with (fail)
  have kf := kz.setRow (qn4 afr att aep anu ag0 aX0 an0 ac0 ae0 ag1 aX1 an1 ac1 ae1)
  have hf := below_setRow (g := (w.heap.size + 1)) hx (by omega) (qn4 afr att aep anu ag0 aX0 an0 ac0 ae0 ag1 aX1 an1 ac1 ae1)
  go_wp2_with (first | (refine wpList_load_row rfl 32 _ rfl (w.heap.size + 2) rfl 32 (qn4 afr att aep anu ag0 aX0 an0 ac0 ae0 ag1 aX1 an1 ac1 ae1) (0, 0) _ kx.row Tryd.underlying32 rfl (by kernel_rfl) ?_) | (refine wpList_store_row rfl 32 _ _ rfl (w.heap.size + 1) (qn4 afr att aep anu ag0 aX0 an0 ac0 ae0 ag1 aX1 an1 ac1 ae1) rfl rfl 32 qn8 kz.row (by kernel_rfl) rfl (by simp [Value.oneCell']) ?_))
  (try simp only [Exit.inBlock, Exit.then])
  refine bodyPost_ret (results_cell_row rfl _ _ (w.heap.size + 1) 32 (qn4 afr att aep anu ag0 aX0 an0 ac0 ae0 ag1 aX1 an1 ac1 ae1) (0, 0) _ rfl kf.row Tryd.underlying32 rfl (by kernel_rfl)) rfl ?_
  exact ⟨rfl, hf⟩
set_option maxRecDepth 100000 in
set_option maxHeartbeats 16000000 in
theorem used2 {afr att aep anu aab : Int} {ag0 : Bool} {aX0 : Option Addr} {an0 ac0 : Nat} {ae0 : Int} {ag1 : Bool} {aX1 : Option Addr} {an1 ac1 : Nat} {ae1 : Int} {ag2 : Bool} {aX2 : Option Addr} {an2 ac2 : Nat} {ae2 : Int} {ag3 : Bool} {aX3 : Option Addr} {an3 ac3 : Nat} {ae3 : Int} {awa : Bool} {aD : Option Addr} {adn adc : Nat} {aeh : Bool} {ax1 ax2 : Int} {aL : Option Addr} {aln alc : Nat} (w : World) : Calls Tryd.prog 67 #[.agg (qn3 afr att aep anu aab ag0 aX0 an0 ac0 ae0 ag1 aX1 an1 ac1 ae1 ag2 aX2 an2 ac2 ae2 ag3 aX3 an3 ac3 ae3 awa aD adn adc aeh ax1 ax2 aL aln alc)] w fun en w' => en = .returned (.agg (qn5 afr att aep anu ag2 aX2 an2 ac2 ae2 ag3 aX3 an3 ac3 ae3)) ∧ Below w.heap.size w w' := by
  obtain ⟨V, hV⟩ : ∃ V, V = (w.alloc (.cells (qn3 afr att aep anu aab ag0 aX0 an0 ac0 ae0 ag1 aX1 an1 ac1 ae1 ag2 aX2 an2 ac2 ae2 ag3 aX3 an3 ac3 ae3 awa aD adn adc aeh ax1 ax2 aL aln alc) 32)).alloc (.cells qn8 32) := ⟨_, rfl⟩
  have hB : Below w.heap.size w V := by rw [hV]; exact ((Below.refl _ _).alloc (Nat.le_refl _) _).alloc (by simp) _
  have ka : Blk V w.heap.size 32 (qn3 afr att aep anu aab ag0 aX0 an0 ac0 ae0 ag1 aX1 an1 ac1 ae1 ag2 aX2 an2 ac2 ae2 ag3 aX3 an3 ac3 ae3 awa aD adn adc aeh ax1 ax2 aL aln alc) := by rw [hV]; exact (Blk.new w _ _).alloc _
  have kr : Blk V (w.heap.size + 1) 32 qn8 := by rw [hV]; simpa using Blk.new (w.alloc (.cells (qn3 afr att aep anu aab ag0 aX0 an0 ac0 ae0 ag1 aX1 an1 ac1 ae1 ag2 aX2 an2 ac2 ae2 ag3 aX3 an3 ac3 ae3 awa aD adn adc aeh ax1 ax2 aL aln alc) 32)) 32 qn8
  have hVs : V.heap.size = w.heap.size + 2 := by rw [hV]; simp
  go_enter Tryd.func67, Tryd.ntmps67
  go_upto_region 1 with (fail)
  rw [← hV]
  clear hV
  have a0 : V.cell? ⟨w.heap.size, 0, none⟩ = some (.int .u8 2) := by rw [ka.cell]; rfl
  have a1 : V.cell? ⟨w.heap.size, 1, none⟩ = some (.int .i64 afr) := by rw [ka.cell]; rfl
  have a2 : V.cell? ⟨w.heap.size, 2, none⟩ = some (.int .i64 att) := by rw [ka.cell]; rfl
  have a3 : V.cell? ⟨w.heap.size, 3, none⟩ = some (.int .i64 aep) := by rw [ka.cell]; rfl
  have a4 : V.cell? ⟨w.heap.size, 4, none⟩ = some (.int .i64 anu) := by rw [ka.cell]; rfl
  have hg0 : (V.alloc (.cells qn8 32)).heap[w.heap.size + 2]? = some (.cells qn8 32 (0, 0)) := by rw [← hVs]; exact Blk.new V 32 qn8
  go_upto_region 2 with (refine wpList_store_row rfl 32 _ _ rfl (w.heap.size + 2) (qn7 afr att aep anu) rfl rfl 32 qn8 hg0 (by kernel_rfl) rfl (by simp [Value.oneCell']) ?_)
  clear a0 a1 a2 a3 a4
  obtain ⟨U, hU⟩ : ∃ U, U = (V.alloc (.cells qn8 32)).setRow (w.heap.size + 2) (qn7 afr att aep anu) := ⟨_, rfl⟩
  have kn : Blk (V.alloc (.cells qn8 32)) (w.heap.size + 2) 32 qn8 := by rw [← hVs]; exact Blk.new V 32 qn8
  have ko := kn.setRow (qn7 afr att aep anu)
  replace ka := (ka.alloc (.cells qn8 32)).setRow_far (k := (w.heap.size + 2)) (by omega) (qn7 afr att aep anu)
  replace kr := (kr.alloc (.cells qn8 32)).setRow_far (k := (w.heap.size + 2)) (by omega) (qn7 afr att aep anu)
  replace hB := below_setRow (g := (w.heap.size + 2)) (hB.alloc (by omega) (.cells qn8 32)) (by omega) (qn7 afr att aep anu)
  rw [← hU] at ko ka kr hB ⊢
  clear hU kn hVs
  have a0 : U.cell? ⟨w.heap.size, 0, none⟩ = some (.int .u8 2) := by rw [ka.cell]; rfl
  go_upto_region 12 with (fail)
  clear a0
  have a12 : U.cell? ⟨w.heap.size, 12, none⟩ = some (.bool ag2) := by rw [ka.cell]; rfl
  have a13 : U.cell? ⟨w.heap.size, 13, none⟩ = some (.slice aX2 an2 ac2) := by rw [ka.cell]; rfl
  have a14 : U.cell? ⟨w.heap.size, 14, none⟩ = some (.int .i64 ae2) := by rw [ka.cell]; rfl
  have a15 : U.cell? ⟨w.heap.size, 15, none⟩ = some (.bool ag3) := by rw [ka.cell]; rfl
  have a16 : U.cell? ⟨w.heap.size, 16, none⟩ = some (.slice aX3 an3 ac3) := by rw [ka.cell]; rfl
  have a17 : U.cell? ⟨w.heap.size, 17, none⟩ = some (.int .i64 ae3) := by rw [ka.cell]; rfl
  have o12 : U.cell? ⟨(w.heap.size + 2), 12, none⟩ = some (.bool false) := by rw [ko.cell]; rfl
  have o13 : U.cell? ⟨(w.heap.size + 2), 13, none⟩ = some (.slice none 0 0) := by rw [ko.cell]; rfl
  have o14 : U.cell? ⟨(w.heap.size + 2), 14, none⟩ = some (.int .i64 0) := by rw [ko.cell]; rfl
  have o15 : U.cell? ⟨(w.heap.size + 2), 15, none⟩ = some (.bool false) := by rw [ko.cell]; rfl
  have o16 : U.cell? ⟨(w.heap.size + 2), 16, none⟩ = some (.slice none 0 0) := by rw [ko.cell]; rfl
  have o17 : U.cell? ⟨(w.heap.size + 2), 17, none⟩ = some (.int .i64 0) := by rw [ko.cell]; rfl
  have of12 : U.frozen? ⟨(w.heap.size + 2), 12, none⟩ = false := ko.frozen 12
  have of13 : U.frozen? ⟨(w.heap.size + 2), 13, none⟩ = false := ko.frozen 13
  have of14 : U.frozen? ⟨(w.heap.size + 2), 14, none⟩ = false := ko.frozen 14
  have of15 : U.frozen? ⟨(w.heap.size + 2), 15, none⟩ = false := ko.frozen 15
  have of16 : U.frozen? ⟨(w.heap.size + 2), 16, none⟩ = false := ko.frozen 16
  have of17 : U.frozen? ⟨(w.heap.size + 2), 17, none⟩ = false := ko.frozen 17
  go_region
  obtain ⟨X, hX⟩ : ∃ X, X = ((((((U.setCell ⟨(w.heap.size + 2), 12, none⟩ (.bool ag2)).setCell ⟨(w.heap.size + 2), 13, none⟩ (.slice aX2 an2 ac2)).setCell ⟨(w.heap.size + 2), 14, none⟩ (.int .i64 ae2)).setCell ⟨(w.heap.size + 2), 15, none⟩ (.bool ag3)).setCell ⟨(w.heap.size + 2), 16, none⟩ (.slice aX3 an3 ac3)).setCell ⟨(w.heap.size + 2), 17, none⟩ (.int .i64 ae3)).drew := ⟨_, rfl⟩
  have ko0 : Blk _ (w.heap.size + 2) 32 #[.int .u8 2, .int .i64 afr, .int .i64 att, .int .i64 aep, .int .i64 anu, .int .i64 0, .bool false, .slice none 0 0, .int .i64 0, .bool false, .slice none 0 0, .int .i64 0, .bool ag2, .slice none 0 0, .int .i64 0, .bool false, .slice none 0 0, .int .i64 0, .bool false, .slice none 0 0, .bool false, .int .i64 0, .int .i64 0, .slice none 0 0] := (show _ from by simpa using ko.set_ 12 (.bool ag2))
  have ko1 : Blk _ (w.heap.size + 2) 32 #[.int .u8 2, .int .i64 afr, .int .i64 att, .int .i64 aep, .int .i64 anu, .int .i64 0, .bool false, .slice none 0 0, .int .i64 0, .bool false, .slice none 0 0, .int .i64 0, .bool ag2, .slice aX2 an2 ac2, .int .i64 0, .bool false, .slice none 0 0, .int .i64 0, .bool false, .slice none 0 0, .bool false, .int .i64 0, .int .i64 0, .slice none 0 0] := (show _ from by simpa using ko0.set_ 13 (.slice aX2 an2 ac2))
  have ko2 : Blk _ (w.heap.size + 2) 32 #[.int .u8 2, .int .i64 afr, .int .i64 att, .int .i64 aep, .int .i64 anu, .int .i64 0, .bool false, .slice none 0 0, .int .i64 0, .bool false, .slice none 0 0, .int .i64 0, .bool ag2, .slice aX2 an2 ac2, .int .i64 ae2, .bool false, .slice none 0 0, .int .i64 0, .bool false, .slice none 0 0, .bool false, .int .i64 0, .int .i64 0, .slice none 0 0] := (show _ from by simpa using ko1.set_ 14 (.int .i64 ae2))
  have ko3 : Blk _ (w.heap.size + 2) 32 #[.int .u8 2, .int .i64 afr, .int .i64 att, .int .i64 aep, .int .i64 anu, .int .i64 0, .bool false, .slice none 0 0, .int .i64 0, .bool false, .slice none 0 0, .int .i64 0, .bool ag2, .slice aX2 an2 ac2, .int .i64 ae2, .bool ag3, .slice none 0 0, .int .i64 0, .bool false, .slice none 0 0, .bool false, .int .i64 0, .int .i64 0, .slice none 0 0] := (show _ from by simpa using ko2.set_ 15 (.bool ag3))
  have ko4 : Blk _ (w.heap.size + 2) 32 #[.int .u8 2, .int .i64 afr, .int .i64 att, .int .i64 aep, .int .i64 anu, .int .i64 0, .bool false, .slice none 0 0, .int .i64 0, .bool false, .slice none 0 0, .int .i64 0, .bool ag2, .slice aX2 an2 ac2, .int .i64 ae2, .bool ag3, .slice aX3 an3 ac3, .int .i64 0, .bool false, .slice none 0 0, .bool false, .int .i64 0, .int .i64 0, .slice none 0 0] := (show _ from by simpa using ko3.set_ 16 (.slice aX3 an3 ac3))
  have ko5 : Blk _ (w.heap.size + 2) 32 (qn5 afr att aep anu ag2 aX2 an2 ac2 ae2 ag3 aX3 an3 ac3 ae3) := (show _ from by simpa using ko4.set_ 17 (.int .i64 ae3))
  have kx : Blk X (w.heap.size + 2) 32 (qn5 afr att aep anu ag2 aX2 an2 ac2 ae2 ag3 aX3 an3 ac3 ae3) := by rw [hX]; exact ko5.drew
  have kz : Blk X (w.heap.size + 1) 32 qn8 := by rw [hX]; exact ((((((kr.far (p := ⟨(w.heap.size + 2), 12, none⟩) (by show _ ≠ w.heap.size + 2; omega) (.bool ag2)).far (p := ⟨(w.heap.size + 2), 13, none⟩) (by show _ ≠ w.heap.size + 2; omega) (.slice aX2 an2 ac2)).far (p := ⟨(w.heap.size + 2), 14, none⟩) (by show _ ≠ w.heap.size + 2; omega) (.int .i64 ae2)).far (p := ⟨(w.heap.size + 2), 15, none⟩) (by show _ ≠ w.heap.size + 2; omega) (.bool ag3)).far (p := ⟨(w.heap.size + 2), 16, none⟩) (by show _ ≠ w.heap.size + 2; omega) (.slice aX3 an3 ac3)).far (p := ⟨(w.heap.size + 2), 17, none⟩) (by show _ ≠ w.heap.size + 2; omega) (.int .i64 ae3)).drew
  have hx : Below w.heap.size w X := by rw [hX]; exact (Below.drew ((((((hB.setCell (p := ⟨(w.heap.size + 2), 12, none⟩) (by show _ ≤ w.heap.size + 2; omega) (.bool ag2)).setCell (p := ⟨(w.heap.size + 2), 13, none⟩) (by show _ ≤ w.heap.size + 2; omega) (.slice aX2 an2 ac2)).setCell (p := ⟨(w.heap.size + 2), 14, none⟩) (by show _ ≤ w.heap.size + 2; omega) (.int .i64 ae2)).setCell (p := ⟨(w.heap.size + 2), 15, none⟩) (by show _ ≤ w.heap.size + 2; omega) (.bool ag3)).setCell (p := ⟨(w.heap.size + 2), 16, none⟩) (by show _ ≤ w.heap.size + 2; omega) (.slice aX3 an3 ac3)).setCell (p := ⟨(w.heap.size + 2), 17, none⟩) (by show _ ≤ w.heap.size + 2; omega) (.int .i64 ae3)))
  rw [← hX]
  clear hX hB kr ko ka ko0 a12 o12 of12 ko1 a13 o13 of13 ko2 a14 o14 of14 ko3 a15 o15 of15 ko4 a16 o16 of16 ko5 a17 o17 of17
  go_upto_region 15 with (fail)
  have kf := kz.setRow (qn5 afr att aep anu ag2 aX2 an2 ac2 ae2 ag3 aX3 an3 ac3 ae3)
  have hf := below_setRow (g := (w.heap.size + 1)) hx (by omega) (qn5 afr att aep anu ag2 aX2 an2 ac2 ae2 ag3 aX3 an3 ac3 ae3)
  go_wp2_with (first | (refine wpList_load_row rfl 32 _ rfl (w.heap.size + 2) rfl 32 (qn5 afr att aep anu ag2 aX2 an2 ac2 ae2 ag3 aX3 an3 ac3 ae3) (0, 0) _ kx.row Tryd.underlying32 rfl (by kernel_rfl) ?_) | (refine wpList_store_row rfl 32 _ _ rfl (w.heap.size + 1) (qn5 afr att aep anu ag2 aX2 an2 ac2 ae2 ag3 aX3 an3 ac3 ae3) rfl rfl 32 qn8 kz.row (by kernel_rfl) rfl (by simp [Value.oneCell']) ?_))
  (try simp only [Exit.inBlock, Exit.then])
  refine bodyPost_ret (results_cell_row rfl _ _ (w.heap.size + 1) 32 (qn5 afr att aep anu ag2 aX2 an2 ac2 ae2 ag3 aX3 an3 ac3 ae3) (0, 0) _ rfl kf.row Tryd.underlying32 rfl (by kernel_rfl)) rfl ?_
  exact ⟨rfl, hf⟩
set_option maxRecDepth 100000 in
set_option maxHeartbeats 16000000 in
theorem ckn0 {akd afr att aep anu aab : Int} {ag0 : Bool} {aX0 : Option Addr} {an0 ac0 : Nat} {ae0 : Int} {ag1 : Bool} {aX1 : Option Addr} {an1 ac1 : Nat} {ae1 : Int} {ag2 : Bool} {aX2 : Option Addr} {an2 ac2 : Nat} {ae2 : Int} {ag3 : Bool} {aX3 : Option Addr} {an3 ac3 : Nat} {ae3 : Int} {awa : Bool} {aD : Option Addr} {adn adc : Nat} {aeh : Bool} {ax1 ax2 : Int} {aL : Option Addr} {aln alc : Nat} (w : World) (c0 : decide (akd < 1) = true) : Calls Tryd.prog 35 #[.agg (qn0 akd afr att aep anu aab ag0 aX0 an0 ac0 ae0 ag1 aX1 an1 ac1 ae1 ag2 aX2 an2 ac2 ae2 ag3 aX3 an3 ac3 ae3 awa aD adn adc aeh ax1 ax2 aL aln alc)] w fun en w' => en = .returned (.int .i64 100) ∧ Below w.heap.size w w' := by
  obtain ⟨V, hV⟩ : ∃ V, V = w.alloc (.cells (qn0 akd afr att aep anu aab ag0 aX0 an0 ac0 ae0 ag1 aX1 an1 ac1 ae1 ag2 aX2 an2 ac2 ae2 ag3 aX3 an3 ac3 ae3 awa aD adn adc aeh ax1 ax2 aL aln alc) 32) := ⟨_, rfl⟩
  have hB : Below w.heap.size w V := by rw [hV]; exact (Below.refl _ _).alloc (Nat.le_refl _) _
  have ka : Blk V w.heap.size 32 (qn0 akd afr att aep anu aab ag0 aX0 an0 ac0 ae0 ag1 aX1 an1 ac1 ae1 ag2 aX2 an2 ac2 ae2 ag3 aX3 an3 ac3 ae3 awa aD adn adc aeh ax1 ax2 aL aln alc) := by rw [hV]; exact Blk.new w _ _
  have a0 : V.cell? ⟨w.heap.size, 0, none⟩ = some (.int .u8 akd) := by rw [ka.cell]; rfl
  go_enter Tryd.func35, Tryd.ntmps35
  go_wp2_with fail
  rw [← hV]
  clear hV
  go_wp2
  go_ret
  exact ⟨rfl, hB⟩
set_option maxRecDepth 100000 in
set_option maxHeartbeats 16000000 in
theorem ckt4 {akd afr att aep anu aab : Int} {ag0 : Bool} {aX0 : Option Addr} {an0 ac0 : Nat} {ae0 : Int} {ag1 : Bool} {aX1 : Option Addr} {an1 ac1 : Nat} {ae1 : Int} {ag2 : Bool} {aX2 : Option Addr} {an2 ac2 : Nat} {ae2 : Int} {ag3 : Bool} {aX3 : Option Addr} {an3 ac3 : Nat} {ae3 : Int} {awa : Bool} {aD : Option Addr} {adn adc : Nat} {aeh : Bool} {ax1 ax2 : Int} {aL : Option Addr} {aln alc : Nat} (w : World) (c0 : decide (akd < 1) = false) (c1 : decide ((6 : Int) < akd) = false) (hq : badN afr = false ∧ badN att = false) (c3 : decide (aep < 0) = false) (c4 : decide ((65535 : Int) < aep) = false) (c5 : decide (anu < 0) = false) (c6 : decide ((1048575 : Int) < anu) = false) (c7 : decide (aab < 0) = false) (c8 : decide ((1048575 : Int) < aab) = false) (hm : ∀ w', Below w.heap.size w w' → Calls Tryd.prog 54 #[.agg #[.bool ag0, .slice aX0 an0 ac0, .int .i64 ae0, .bool ag1, .slice aX1 an1 ac1, .int .i64 ae1, .bool ag2, .slice aX2 an2 ac2, .int .i64 ae2, .bool ag3, .slice aX3 an3 ac3, .int .i64 ae3]] w' fun en w'' => en = .returned (.int .i64 0) ∧ Below w'.heap.size w' w'') (hd : ∀ w', Below w.heap.size w w' → Calls Tryd.prog 63 #[.slice aD adn adc] w' fun en w'' => en = .returned (.int .i64 0) ∧ Below w'.heap.size w' w'') (he : ∀ w', Below w.heap.size w w' → Calls Tryd.prog 64 #[.agg #[.bool aeh, .int .i64 ax1, .int .i64 ax2]] w' fun en w'' => en = .returned (.bool true) ∧ Below w'.heap.size w' w'') (hl : ∀ w', Below w.heap.size w w' → Calls Tryd.prog 65 #[.slice aL aln alc] w' fun en w'' => en = .returned (.bool true) ∧ Below w'.heap.size w' w'') (U : Array Value) (Q : Bool) (E : Int) (hE : (if Q = true then 0 else 100) = E) (hu : ∀ w', Below w.heap.size w w' → Calls Tryd.prog 67 #[.agg (qn0 akd afr att aep anu aab ag0 aX0 an0 ac0 ae0 ag1 aX1 an1 ac1 ae1 ag2 aX2 an2 ac2 ae2 ag3 aX3 an3 ac3 ae3 awa aD adn adc aeh ax1 ax2 aL aln alc)] w' fun en w'' => en = .returned (.agg U) ∧ Below w'.heap.size w' w'') (hs : ∀ w', Below w.heap.size w w' → Calls Tryd.prog 66 #[.agg (qn0 akd afr att aep anu aab ag0 aX0 an0 ac0 ae0 ag1 aX1 an1 ac1 ae1 ag2 aX2 an2 ac2 ae2 ag3 aX3 an3 ac3 ae3 awa aD adn adc aeh ax1 ax2 aL aln alc), .agg U] w' fun en w'' => en = .returned (.bool Q) ∧ Below w'.heap.size w' w'') : Calls Tryd.prog 35 #[.agg (qn0 akd afr att aep anu aab ag0 aX0 an0 ac0 ae0 ag1 aX1 an1 ac1 ae1 ag2 aX2 an2 ac2 ae2 ag3 aX3 an3 ac3 ae3 awa aD adn adc aeh ax1 ax2 aL aln alc)] w fun en w' => en = .returned (.int .i64 E) ∧ Below w.heap.size w w' := by
  obtain ⟨V, hV⟩ : ∃ V, V = w.alloc (.cells (qn0 akd afr att aep anu aab ag0 aX0 an0 ac0 ae0 ag1 aX1 an1 ac1 ae1 ag2 aX2 an2 ac2 ae2 ag3 aX3 an3 ac3 ae3 awa aD adn adc aeh ax1 ax2 aL aln alc) 32) := ⟨_, rfl⟩
  have hB : Below w.heap.size w V := by rw [hV]; exact (Below.refl _ _).alloc (Nat.le_refl _) _
  have ka : Blk V w.heap.size 32 (qn0 akd afr att aep anu aab ag0 aX0 an0 ac0 ae0 ag1 aX1 an1 ac1 ae1 ag2 aX2 an2 ac2 ae2 ag3 aX3 an3 ac3 ae3 awa aD adn adc aeh ax1 ax2 aL aln alc) := by rw [hV]; exact Blk.new w _ _
  have a0 : V.cell? ⟨w.heap.size, 0, none⟩ = some (.int .u8 akd) := by rw [ka.cell]; rfl
  have a1 : V.cell? ⟨w.heap.size, 1, none⟩ = some (.int .i64 afr) := by rw [ka.cell]; rfl
  have a2 : V.cell? ⟨w.heap.size, 2, none⟩ = some (.int .i64 att) := by rw [ka.cell]; rfl
  obtain ⟨V2, hV2⟩ : ∃ V2, V2 = V.alloc (.cells #[.int .i64 afr, .int .i64 att] 3) := ⟨_, rfl⟩
  have kn : Blk V2 V.heap.size 3 #[.int .i64 afr, .int .i64 att] := by rw [hV2]; exact Blk.new V _ _
  have kb : Blk V2 w.heap.size 32 (qn0 akd afr att aep anu aab ag0 aX0 an0 ac0 ae0 ag1 aX1 an1 ac1 ae1 ag2 aX2 an2 ac2 ae2 ag3 aX3 an3 ac3 ae3 awa aD adn adc aeh ax1 ax2 aL aln alc) := by rw [hV2]; exact ka.alloc _
  have hB2 : Below w.heap.size w V2 := by rw [hV2]; exact hB.alloc hB.size _
  have hVs : V.heap.size = w.heap.size + 1 := by rw [hV]; simp
  rw [hVs] at kn
  clear hVs
  have hn := node_any (w.heap.size + 1) afr att V2 (by rw [kn.cell]; rfl) (by rw [kn.cell]; rfl)
  have hnb : (!(badN afr || badN att)) = true := by rw [hq.1, hq.2]; rfl
  rw [hnb] at hn
  clear hq hnb kn
  have fhm := fun q : Bw V2.heap.size V2 => Calls.bw (hm q.w (hB2.trans (q.h.mono hB2.size))) (Nat.le_refl _)
  have fhd := fun q : Bw V2.heap.size V2 => Calls.bw (hd q.w (hB2.trans (q.h.mono hB2.size))) (Nat.le_refl _)
  have fhe := fun q : Bw V2.heap.size V2 => Calls.bw (he q.w (hB2.trans (q.h.mono hB2.size))) (Nat.le_refl _)
  have fhl := fun q : Bw V2.heap.size V2 => Calls.bw (hl q.w (hB2.trans (q.h.mono hB2.size))) (Nat.le_refl _)
  have fhu := fun q : Bw V2.heap.size V2 => Calls.bw (hu q.w (hB2.trans (q.h.mono hB2.size))) (Nat.le_refl _)
  have fhs := fun q : Bw V2.heap.size V2 => Calls.bw (hs q.w (hB2.trans (q.h.mono hB2.size))) (Nat.le_refl _)
  have r1 : ∀ q : Bw V2.heap.size V2, q.w.rangeAt w.heap.size 6 [.bool ag0, .slice aX0 an0 ac0, .int .i64 ae0, .bool ag1, .slice aX1 an1 ac1, .int .i64 ae1, .bool ag2, .slice aX2 an2 ac2, .int .i64 ae2, .bool ag3, .slice aX3 an3 ac3, .int .i64 ae3] := fun q => (kb.below q.h kb.lt).range 6 _ rfl
  have r2 : ∀ q : Bw V2.heap.size V2, q.w.rangeAt w.heap.size 0 [.int .u8 akd, .int .i64 afr, .int .i64 att, .int .i64 aep, .int .i64 anu, .int .i64 aab, .bool ag0, .slice aX0 an0 ac0, .int .i64 ae0, .bool ag1, .slice aX1 an1 ac1, .int .i64 ae1, .bool ag2, .slice aX2 an2 ac2, .int .i64 ae2, .bool ag3, .slice aX3 an3 ac3, .int .i64 ae3, .bool awa, .slice aD adn adc, .bool aeh, .int .i64 ax1, .int .i64 ax2, .slice aL aln alc] := fun q => (kb.below q.h kb.lt).range 0 _ rfl
  have s18 : ∀ q : Bw V2.heap.size V2, q.w.cell? ⟨w.heap.size, 18, none⟩ = some (.bool awa) := fun q => (q.h.cell (p := ⟨w.heap.size, 18, none⟩) kb.lt).trans (by rw [kb.cell]; rfl)
  have s19 : ∀ q : Bw V2.heap.size V2, q.w.cell? ⟨w.heap.size, 19, none⟩ = some (.slice aD adn adc) := fun q => (q.h.cell (p := ⟨w.heap.size, 19, none⟩) kb.lt).trans (by rw [kb.cell]; rfl)
  have s20 : ∀ q : Bw V2.heap.size V2, q.w.cell? ⟨w.heap.size, 20, none⟩ = some (.bool aeh) := fun q => (q.h.cell (p := ⟨w.heap.size, 20, none⟩) kb.lt).trans (by rw [kb.cell]; rfl)
  have s21 : ∀ q : Bw V2.heap.size V2, q.w.cell? ⟨w.heap.size, 21, none⟩ = some (.int .i64 ax1) := fun q => (q.h.cell (p := ⟨w.heap.size, 21, none⟩) kb.lt).trans (by rw [kb.cell]; rfl)
  have s22 : ∀ q : Bw V2.heap.size V2, q.w.cell? ⟨w.heap.size, 22, none⟩ = some (.int .i64 ax2) := fun q => (q.h.cell (p := ⟨w.heap.size, 22, none⟩) kb.lt).trans (by rw [kb.cell]; rfl)
  have s23 : ∀ q : Bw V2.heap.size V2, q.w.cell? ⟨w.heap.size, 23, none⟩ = some (.slice aL aln alc) := fun q => (q.h.cell (p := ⟨w.heap.size, 23, none⟩) kb.lt).trans (by rw [kb.cell]; rfl)
  clear hm hd he hl hu hs
  go_enter Tryd.func35, Tryd.ntmps35
  go_wp2_with fail
  rw [← hV]
  clear hV
  go_wp2_with fail
  rw [← hV2]
  clear hV2
  refine hn.mono ?_
  rintro en w2 ⟨rfl, rfl⟩
  clear a0 a1 a2 hn
  have a3 : V2.cell? ⟨w.heap.size, 3, none⟩ = some (.int .i64 aep) := by rw [kb.cell]; rfl
  have a4 : V2.cell? ⟨w.heap.size, 4, none⟩ = some (.int .i64 anu) := by rw [kb.cell]; rfl
  have a5 : V2.cell? ⟨w.heap.size, 5, none⟩ = some (.int .i64 aab) := by rw [kb.cell]; rfl
  go_upto_region 3 with (fail)
  clear a3 a4 a5
  refine wp_region_wq V2.heap.size V2 (Below.refl _ _) (by kernel_rfl) (by kernel_rfl) ?_
  repeat (first | (refine WQ.yes (by rfl) (fun K hK => ?_); refine quiet_load_mid 27 _ rfl w.heap.size 6 rfl [.bool ag0, .slice aX0 an0 ac0, .int .i64 ae0, .bool ag1, .slice aX1 an1 ac1, .int .i64 ae1, .bool ag2, .slice aX2 an2 ac2, .int .i64 ae2, .bool ag3, .slice aX3 an3 ac3, .int .i64 ae3] _ r1 Tryd.underlying27 rfl (by kernel_rfl) (hK _ ?_); clear hK K; simp only [Act.put, List.setIfInBounds_toArray, List.set_cons_zero, List.set_cons_succ]) | (refine WQ.yes (by rfl) (fun K hK => ?_); refine quiet_load_mid 32 _ rfl w.heap.size 0 rfl [.int .u8 akd, .int .i64 afr, .int .i64 att, .int .i64 aep, .int .i64 anu, .int .i64 aab, .bool ag0, .slice aX0 an0 ac0, .int .i64 ae0, .bool ag1, .slice aX1 an1 ac1, .int .i64 ae1, .bool ag2, .slice aX2 an2 ac2, .int .i64 ae2, .bool ag3, .slice aX3 an3 ac3, .int .i64 ae3, .bool awa, .slice aD adn adc, .bool aeh, .int .i64 ax1, .int .i64 ax2, .slice aL aln alc] _ r2 Tryd.underlying32 rfl (by kernel_rfl) (hK _ ?_); clear hK K; simp only [Act.put, List.setIfInBounds_toArray, List.set_cons_zero, List.set_cons_succ]) | (refine WQ.yes (by rfl) (fun K hK => ?_); go_simp; first | (refine hK _ ?_; clear hK K) | (apply Exists.intro; refine ⟨fun _ => ?_, hK _ ?_⟩; (first | exact fhm _ | exact fhd _ | exact fhe _ | exact fhl _ | exact fhu _ | exact fhs _); clear hK K)) | (refine WQ.no (by rfl) ?_; (try simp only [Act.put, List.setIfInBounds_toArray, List.set_cons_zero, List.set_cons_succ])))
  refine WQ.nil ?_
  intro pq
  have hpB := hB2.trans (pq.h.mono hB2.size)
  clear r1 r2 s18 s19 s20 s21 s22 s23 fhm fhd fhe fhl fhu fhs
  cases Q
  · obtain rfl : (100 : Int) = E := hE
    go_wp2
    go_ret
    exact ⟨rfl, hpB⟩
  · obtain rfl : (0 : Int) = E := hE
    go_wp2
    go_ret
    exact ⟨rfl, hpB⟩
end Go.Proofs.YtdmjdpaehnhdoaaDoor
