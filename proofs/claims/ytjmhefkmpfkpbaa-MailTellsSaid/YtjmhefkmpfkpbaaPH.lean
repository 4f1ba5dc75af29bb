/- Mail: what a mail's kind uses -/
import Derived.Test.YtjmhefkmpfkpbaaZR
import Derived.Test.YtjmhefkmpfkpbaaKA
import Derived.BigRegion
namespace Go.Proofs.Ytjmhefkmpfkpbaa
open Go.ChangeShapes Go.WideShapes Go.ChangeAt Go.RowKit
set_option linter.unusedSimpArgs false
set_option linter.unusedVariables false
abbrev ph0 (afr att aep anu aab : Int) (ag0 : Bool) (aX0 : Option Addr) (an0 ac0 : Nat) (ae0 : Int) (ag1 : Bool) (aX1 : Option Addr) (an1 ac1 : Nat) (ae1 : Int) (ag2 : Bool) (aX2 : Option Addr) (an2 ac2 : Nat) (ae2 : Int) (ag3 : Bool) (aX3 : Option Addr) (an3 ac3 : Nat) (ae3 : Int) (awa : Bool) (aD : Option Addr) (adn adc : Nat) (aeh : Bool) (ax1 ax2 : Int) (aL : Option Addr) (aln alc : Nat) : Array Value := #[.int .u8 1, .int .i64 afr, .int .i64 att, .int .i64 aep, .int .i64 anu, .int .i64 aab, .bool ag0, .slice aX0 an0 ac0, .int .i64 ae0, .bool ag1, .slice aX1 an1 ac1, .int .i64 ae1, .bool ag2, .slice aX2 an2 ac2, .int .i64 ae2, .bool ag3, .slice aX3 an3 ac3, .int .i64 ae3, .bool awa, .slice aD adn adc, .bool aeh, .int .i64 ax1, .int .i64 ax2, .slice aL aln alc]
abbrev ph1 (afr att aep anu aab : Int) (ag0 : Bool) (aX0 : Option Addr) (an0 ac0 : Nat) (ae0 : Int) (ag1 : Bool) (aX1 : Option Addr) (an1 ac1 : Nat) (ae1 : Int) (ag2 : Bool) (aX2 : Option Addr) (an2 ac2 : Nat) (ae2 : Int) (ag3 : Bool) (aX3 : Option Addr) (an3 ac3 : Nat) (ae3 : Int) (awa : Bool) (aD : Option Addr) (adn adc : Nat) (aeh : Bool) (ax1 ax2 : Int) (aL : Option Addr) (aln alc : Nat) : Array Value := #[.int .u8 2, .int .i64 afr, .int .i64 att, .int .i64 aep, .int .i64 anu, .int .i64 aab, .bool ag0, .slice aX0 an0 ac0, .int .i64 ae0, .bool ag1, .slice aX1 an1 ac1, .int .i64 ae1, .bool ag2, .slice aX2 an2 ac2, .int .i64 ae2, .bool ag3, .slice aX3 an3 ac3, .int .i64 ae3, .bool awa, .slice aD adn adc, .bool aeh, .int .i64 ax1, .int .i64 ax2, .slice aL aln alc]
abbrev ph2 (afr att aep anu aab : Int) (ag0 : Bool) (aX0 : Option Addr) (an0 ac0 : Nat) (ae0 : Int) (ag1 : Bool) (aX1 : Option Addr) (an1 ac1 : Nat) (ae1 : Int) (ag2 : Bool) (aX2 : Option Addr) (an2 ac2 : Nat) (ae2 : Int) (ag3 : Bool) (aX3 : Option Addr) (an3 ac3 : Nat) (ae3 : Int) (awa : Bool) (aD : Option Addr) (adn adc : Nat) (aeh : Bool) (ax1 ax2 : Int) (aL : Option Addr) (aln alc : Nat) : Array Value := #[.int .u8 3, .int .i64 afr, .int .i64 att, .int .i64 aep, .int .i64 anu, .int .i64 aab, .bool ag0, .slice aX0 an0 ac0, .int .i64 ae0, .bool ag1, .slice aX1 an1 ac1, .int .i64 ae1, .bool ag2, .slice aX2 an2 ac2, .int .i64 ae2, .bool ag3, .slice aX3 an3 ac3, .int .i64 ae3, .bool awa, .slice aD adn adc, .bool aeh, .int .i64 ax1, .int .i64 ax2, .slice aL aln alc]
abbrev ph3 (afr att aep anu aab : Int) (ag0 : Bool) (aX0 : Option Addr) (an0 ac0 : Nat) (ae0 : Int) (ag1 : Bool) (aX1 : Option Addr) (an1 ac1 : Nat) (ae1 : Int) (ag2 : Bool) (aX2 : Option Addr) (an2 ac2 : Nat) (ae2 : Int) (ag3 : Bool) (aX3 : Option Addr) (an3 ac3 : Nat) (ae3 : Int) (awa : Bool) (aD : Option Addr) (adn adc : Nat) (aeh : Bool) (ax1 ax2 : Int) (aL : Option Addr) (aln alc : Nat) : Array Value := #[.int .u8 4, .int .i64 afr, .int .i64 att, .int .i64 aep, .int .i64 anu, .int .i64 aab, .bool ag0, .slice aX0 an0 ac0, .int .i64 ae0, .bool ag1, .slice aX1 an1 ac1, .int .i64 ae1, .bool ag2, .slice aX2 an2 ac2, .int .i64 ae2, .bool ag3, .slice aX3 an3 ac3, .int .i64 ae3, .bool awa, .slice aD adn adc, .bool aeh, .int .i64 ax1, .int .i64 ax2, .slice aL aln alc]
abbrev ph4 (afr att aep anu aab : Int) (ag0 : Bool) (aX0 : Option Addr) (an0 ac0 : Nat) (ae0 : Int) (ag1 : Bool) (aX1 : Option Addr) (an1 ac1 : Nat) (ae1 : Int) (ag2 : Bool) (aX2 : Option Addr) (an2 ac2 : Nat) (ae2 : Int) (ag3 : Bool) (aX3 : Option Addr) (an3 ac3 : Nat) (ae3 : Int) (awa : Bool) (aD : Option Addr) (adn adc : Nat) (aeh : Bool) (ax1 ax2 : Int) (aL : Option Addr) (aln alc : Nat) : Array Value := #[.int .u8 5, .int .i64 afr, .int .i64 att, .int .i64 aep, .int .i64 anu, .int .i64 aab, .bool ag0, .slice aX0 an0 ac0, .int .i64 ae0, .bool ag1, .slice aX1 an1 ac1, .int .i64 ae1, .bool ag2, .slice aX2 an2 ac2, .int .i64 ae2, .bool ag3, .slice aX3 an3 ac3, .int .i64 ae3, .bool awa, .slice aD adn adc, .bool aeh, .int .i64 ax1, .int .i64 ax2, .slice aL aln alc]
abbrev ph5 (afr att aep anu aab : Int) (ag0 : Bool) (aX0 : Option Addr) (an0 ac0 : Nat) (ae0 : Int) (ag1 : Bool) (aX1 : Option Addr) (an1 ac1 : Nat) (ae1 : Int) (ag2 : Bool) (aX2 : Option Addr) (an2 ac2 : Nat) (ae2 : Int) (ag3 : Bool) (aX3 : Option Addr) (an3 ac3 : Nat) (ae3 : Int) (awa : Bool) (aD : Option Addr) (adn adc : Nat) (aeh : Bool) (ax1 ax2 : Int) (aL : Option Addr) (aln alc : Nat) : Array Value := #[.int .u8 6, .int .i64 afr, .int .i64 att, .int .i64 aep, .int .i64 anu, .int .i64 aab, .bool ag0, .slice aX0 an0 ac0, .int .i64 ae0, .bool ag1, .slice aX1 an1 ac1, .int .i64 ae1, .bool ag2, .slice aX2 an2 ac2, .int .i64 ae2, .bool ag3, .slice aX3 an3 ac3, .int .i64 ae3, .bool awa, .slice aD adn adc, .bool aeh, .int .i64 ax1, .int .i64 ax2, .slice aL aln alc]
abbrev ph6 (afr att aep anu aab : Int) (ag2 : Bool) (aX2 : Option Addr) (an2 ac2 : Nat) (ae2 : Int) (ag3 : Bool) (aX3 : Option Addr) (an3 ac3 : Nat) (ae3 : Int) : Array Value := #[.int .u8 3, .int .i64 afr, .int .i64 att, .int .i64 aep, .int .i64 anu, .int .i64 aab, .bool false, .slice none 0 0, .int .i64 0, .bool false, .slice none 0 0, .int .i64 0, .bool ag2, .slice aX2 an2 ac2, .int .i64 ae2, .bool ag3, .slice aX3 an3 ac3, .int .i64 ae3, .bool false, .slice none 0 0, .bool false, .int .i64 0, .int .i64 0, .slice none 0 0]
abbrev ph7 (afr att aep anu : Int) (ag0 : Bool) (aX0 : Option Addr) (an0 ac0 : Nat) (ae0 : Int) (ag1 : Bool) (aX1 : Option Addr) (an1 ac1 : Nat) (ae1 : Int) : Array Value := #[.int .u8 1, .int .i64 afr, .int .i64 att, .int .i64 aep, .int .i64 anu, .int .i64 0, .bool ag0, .slice aX0 an0 ac0, .int .i64 ae0, .bool ag1, .slice aX1 an1 ac1, .int .i64 ae1, .bool false, .slice none 0 0, .int .i64 0, .bool false, .slice none 0 0, .int .i64 0, .bool false, .slice none 0 0, .bool false, .int .i64 0, .int .i64 0, .slice none 0 0]
abbrev ph8 (afr att aep anu : Int) (ag2 : Bool) (aX2 : Option Addr) (an2 ac2 : Nat) (ae2 : Int) (ag3 : Bool) (aX3 : Option Addr) (an3 ac3 : Nat) (ae3 : Int) : Array Value := #[.int .u8 2, .int .i64 afr, .int .i64 att, .int .i64 aep, .int .i64 anu, .int .i64 0, .bool false, .slice none 0 0, .int .i64 0, .bool false, .slice none 0 0, .int .i64 0, .bool ag2, .slice aX2 an2 ac2, .int .i64 ae2, .bool ag3, .slice aX3 an3 ac3, .int .i64 ae3, .bool false, .slice none 0 0, .bool false, .int .i64 0, .int .i64 0, .slice none 0 0]
abbrev ph9 (afr att aep anu : Int) (aeh : Bool) (ax1 ax2 : Int) (aL : Option Addr) (aln alc : Nat) : Array Value := #[.int .u8 6, .int .i64 afr, .int .i64 att, .int .i64 aep, .int .i64 anu, .int .i64 0, .bool false, .slice none 0 0, .int .i64 0, .bool false, .slice none 0 0, .int .i64 0, .bool false, .slice none 0 0, .int .i64 0, .bool false, .slice none 0 0, .int .i64 0, .bool false, .slice none 0 0, .bool aeh, .int .i64 ax1, .int .i64 ax2, .slice aL aln alc]
abbrev ph10 (afr att aep anu aab : Int) : Array Value := #[.int .u8 4, .int .i64 afr, .int .i64 att, .int .i64 aep, .int .i64 anu, .int .i64 aab, .bool false, .slice none 0 0, .int .i64 0, .bool false, .slice none 0 0, .int .i64 0, .bool false, .slice none 0 0, .int .i64 0, .bool false, .slice none 0 0, .int .i64 0, .bool false, .slice none 0 0, .bool false, .int .i64 0, .int .i64 0, .slice none 0 0]
abbrev ph11 (afr att aep anu : Int) : Array Value := #[.int .u8 1, .int .i64 afr, .int .i64 att, .int .i64 aep, .int .i64 anu, .int .i64 0, .bool false, .slice none 0 0, .int .i64 0, .bool false, .slice none 0 0, .int .i64 0, .bool false, .slice none 0 0, .int .i64 0, .bool false, .slice none 0 0, .int .i64 0, .bool false, .slice none 0 0, .bool false, .int .i64 0, .int .i64 0, .slice none 0 0]
abbrev ph12 (afr att aep anu : Int) : Array Value := #[.int .u8 2, .int .i64 afr, .int .i64 att, .int .i64 aep, .int .i64 anu, .int .i64 0, .bool false, .slice none 0 0, .int .i64 0, .bool false, .slice none 0 0, .int .i64 0, .bool false, .slice none 0 0, .int .i64 0, .bool false, .slice none 0 0, .int .i64 0, .bool false, .slice none 0 0, .bool false, .int .i64 0, .int .i64 0, .slice none 0 0]
abbrev ph13 (afr att aep anu : Int) : Array Value := #[.int .u8 3, .int .i64 afr, .int .i64 att, .int .i64 aep, .int .i64 anu, .int .i64 0, .bool false, .slice none 0 0, .int .i64 0, .bool false, .slice none 0 0, .int .i64 0, .bool false, .slice none 0 0, .int .i64 0, .bool false, .slice none 0 0, .int .i64 0, .bool false, .slice none 0 0, .bool false, .int .i64 0, .int .i64 0, .slice none 0 0]
abbrev ph14 (afr att aep anu : Int) : Array Value := #[.int .u8 4, .int .i64 afr, .int .i64 att, .int .i64 aep, .int .i64 anu, .int .i64 0, .bool false, .slice none 0 0, .int .i64 0, .bool false, .slice none 0 0, .int .i64 0, .bool false, .slice none 0 0, .int .i64 0, .bool false, .slice none 0 0, .int .i64 0, .bool false, .slice none 0 0, .bool false, .int .i64 0, .int .i64 0, .slice none 0 0]
abbrev ph15 (afr att aep anu : Int) (awa : Bool) (aD : Option Addr) (adn adc : Nat) : Array Value := #[.int .u8 5, .int .i64 afr, .int .i64 att, .int .i64 aep, .int .i64 anu, .int .i64 0, .bool false, .slice none 0 0, .int .i64 0, .bool false, .slice none 0 0, .int .i64 0, .bool false, .slice none 0 0, .int .i64 0, .bool false, .slice none 0 0, .int .i64 0, .bool awa, .slice aD adn adc, .bool false, .int .i64 0, .int .i64 0, .slice none 0 0]
abbrev ph16 (afr att aep anu : Int) : Array Value := #[.int .u8 5, .int .i64 afr, .int .i64 att, .int .i64 aep, .int .i64 anu, .int .i64 0, .bool false, .slice none 0 0, .int .i64 0, .bool false, .slice none 0 0, .int .i64 0, .bool false, .slice none 0 0, .int .i64 0, .bool false, .slice none 0 0, .int .i64 0, .bool false, .slice none 0 0, .bool false, .int .i64 0, .int .i64 0, .slice none 0 0]
abbrev ph17 (afr att aep anu : Int) : Array Value := #[.int .u8 6, .int .i64 afr, .int .i64 att, .int .i64 aep, .int .i64 anu, .int .i64 0, .bool false, .slice none 0 0, .int .i64 0, .bool false, .slice none 0 0, .int .i64 0, .bool false, .slice none 0 0, .int .i64 0, .bool false, .slice none 0 0, .int .i64 0, .bool false, .slice none 0 0, .bool false, .int .i64 0, .int .i64 0, .slice none 0 0]
abbrev ph18 : Array Value := #[.int .u8 0, .int .i64 0, .int .i64 0, .int .i64 0, .int .i64 0, .int .i64 0, .bool false, .slice none 0 0, .int .i64 0, .bool false, .slice none 0 0, .int .i64 0, .bool false, .slice none 0 0, .int .i64 0, .bool false, .slice none 0 0, .int .i64 0, .bool false, .slice none 0 0, .bool false, .int .i64 0, .int .i64 0, .slice none 0 0]
set_option maxRecDepth 100000 in
set_option maxHeartbeats 16000000 in
theorem used1 {afr att aep anu aab : Int} {ag0 : Bool} {aX0 : Option Addr} {an0 ac0 : Nat} {ae0 : Int} {ag1 : Bool} {aX1 : Option Addr} {an1 ac1 : Nat} {ae1 : Int} {ag2 : Bool} {aX2 : Option Addr} {an2 ac2 : Nat} {ae2 : Int} {ag3 : Bool} {aX3 : Option Addr} {an3 ac3 : Nat} {ae3 : Int} {awa : Bool} {aD : Option Addr} {adn adc : Nat} {aeh : Bool} {ax1 ax2 : Int} {aL : Option Addr} {aln alc : Nat} (w : World) : Calls Try.prog 45 #[.agg (ph0 afr att aep anu aab ag0 aX0 an0 ac0 ae0 ag1 aX1 an1 ac1 ae1 ag2 aX2 an2 ac2 ae2 ag3 aX3 an3 ac3 ae3 awa aD adn adc aeh ax1 ax2 aL aln alc)] w fun en w' => en = .returned (.agg (ph7 afr att aep anu ag0 aX0 an0 ac0 ae0 ag1 aX1 an1 ac1 ae1)) ∧ Below w.heap.size w w' := by
  obtain ⟨V, hV⟩ : ∃ V, V = (w.alloc (.cells (ph0 afr att aep anu aab ag0 aX0 an0 ac0 ae0 ag1 aX1 an1 ac1 ae1 ag2 aX2 an2 ac2 ae2 ag3 aX3 an3 ac3 ae3 awa aD adn adc aeh ax1 ax2 aL aln alc) 31)).alloc (.cells ph18 31) := ⟨_, rfl⟩
  have hB : Below w.heap.size w V := by rw [hV]; exact ((Below.refl _ _).alloc (Nat.le_refl _) _).alloc (by simp) _
  have ka : Blk V w.heap.size 31 (ph0 afr att aep anu aab ag0 aX0 an0 ac0 ae0 ag1 aX1 an1 ac1 ae1 ag2 aX2 an2 ac2 ae2 ag3 aX3 an3 ac3 ae3 awa aD adn adc aeh ax1 ax2 aL aln alc) := by rw [hV]; exact (Blk.new w _ _).alloc _
  have kr : Blk V (w.heap.size + 1) 31 ph18 := by rw [hV]; simpa using Blk.new (w.alloc (.cells (ph0 afr att aep anu aab ag0 aX0 an0 ac0 ae0 ag1 aX1 an1 ac1 ae1 ag2 aX2 an2 ac2 ae2 ag3 aX3 an3 ac3 ae3 awa aD adn adc aeh ax1 ax2 aL aln alc) 31)) 31 ph18
  have hVs : V.heap.size = w.heap.size + 2 := by rw [hV]; simp
  go_enter Try.func45, Try.ntmps45
  go_upto_region 1 with (fail)
  rw [← hV]
  clear hV
  have a0 : V.cell? ⟨w.heap.size, 0, none⟩ = some (.int .u8 1) := by rw [ka.cell]; rfl
  have a1 : V.cell? ⟨w.heap.size, 1, none⟩ = some (.int .i64 afr) := by rw [ka.cell]; rfl
  have a2 : V.cell? ⟨w.heap.size, 2, none⟩ = some (.int .i64 att) := by rw [ka.cell]; rfl
  have a3 : V.cell? ⟨w.heap.size, 3, none⟩ = some (.int .i64 aep) := by rw [ka.cell]; rfl
  have a4 : V.cell? ⟨w.heap.size, 4, none⟩ = some (.int .i64 anu) := by rw [ka.cell]; rfl
  have hg0 : (V.alloc (.cells ph18 31)).heap[w.heap.size + 2]? = some (.cells ph18 31 (0, 0)) := by rw [← hVs]; exact Blk.new V 31 ph18
  go_upto_region 2 with (refine wpList_store_row rfl 31 _ _ rfl (w.heap.size + 2) (ph11 afr att aep anu) rfl rfl 31 ph18 hg0 (by kernel_rfl) rfl (by simp [Value.oneCell']) ?_)
  clear a0 a1 a2 a3 a4
  obtain ⟨U, hU⟩ : ∃ U, U = (V.alloc (.cells ph18 31)).setRow (w.heap.size + 2) (ph11 afr att aep anu) := ⟨_, rfl⟩
  have kn : Blk (V.alloc (.cells ph18 31)) (w.heap.size + 2) 31 ph18 := by rw [← hVs]; exact Blk.new V 31 ph18
  have ko := kn.setRow (ph11 afr att aep anu)
  replace ka := (ka.alloc (.cells ph18 31)).setRow_far (k := (w.heap.size + 2)) (by omega) (ph11 afr att aep anu)
  replace kr := (kr.alloc (.cells ph18 31)).setRow_far (k := (w.heap.size + 2)) (by omega) (ph11 afr att aep anu)
  replace hB := below_setRow (g := (w.heap.size + 2)) (hB.alloc (by omega) (.cells ph18 31)) (by omega) (ph11 afr att aep anu)
  rw [← hU] at ko ka kr hB ⊢
  clear hU kn hVs
  have a0 : U.cell? ⟨w.heap.size, 0, none⟩ = some (.int .u8 1) := by rw [ka.cell]; rfl
  go_upto_region 9 with (fail)
  clear a0
  have a6 : U.cell? ⟨w.heap.size, 6, none⟩ = some (.bool ag0) := by rw [ka.cell]; rfl
  have a7 : U.cell? ⟨w.heap.size, 7, none⟩ = some (.slice aX0 an0 ac0) := by rw [ka.cell]; rfl
  have a8 : U.cell? ⟨w.heap.size, 8, none⟩ = some (.int .i64 ae0) := by rw [ka.cell]; rfl
  have a9 : U.cell? ⟨w.heap.size, 9, none⟩ = some (.bool ag1) := by rw [ka.cell]; rfl
  have a10 : U.cell? ⟨w.heap.size, 10, none⟩ = some (.slice aX1 an1 ac1) := by rw [ka.cell]; rfl
  have a11 : U.cell? ⟨w.heap.size, 11, none⟩ = some (.int .i64 ae1) := by rw [ka.cell]; rfl
  have o6 : U.cell? ⟨(w.heap.size + 2), 6, none⟩ = some (.bool false) := by rw [ko.cell]; rfl
  have o7 : U.cell? ⟨(w.heap.size + 2), 7, none⟩ = some (.slice none 0 0) := by rw [ko.cell]; rfl
  have o8 : U.cell? ⟨(w.heap.size + 2), 8, none⟩ = some (.int .i64 0) := by rw [ko.cell]; rfl
  have o9 : U.cell? ⟨(w.heap.size + 2), 9, none⟩ = some (.bool false) := by rw [ko.cell]; rfl
  have o10 : U.cell? ⟨(w.heap.size + 2), 10, none⟩ = some (.slice none 0 0) := by rw [ko.cell]; rfl
  have o11 : U.cell? ⟨(w.heap.size + 2), 11, none⟩ = some (.int .i64 0) := by rw [ko.cell]; rfl
  have of6 : U.frozen? ⟨(w.heap.size + 2), 6, none⟩ = false := ko.frozen 6
  have of7 : U.frozen? ⟨(w.heap.size + 2), 7, none⟩ = false := ko.frozen 7
  have of8 : U.frozen? ⟨(w.heap.size + 2), 8, none⟩ = false := ko.frozen 8
  have of9 : U.frozen? ⟨(w.heap.size + 2), 9, none⟩ = false := ko.frozen 9
  have of10 : U.frozen? ⟨(w.heap.size + 2), 10, none⟩ = false := ko.frozen 10
  have of11 : U.frozen? ⟨(w.heap.size + 2), 11, none⟩ = false := ko.frozen 11
  go_region
  obtain ⟨X, hX⟩ : ∃ X, X = ((((((U.setCell ⟨(w.heap.size + 2), 6, none⟩ (.bool ag0)).setCell ⟨(w.heap.size + 2), 7, none⟩ (.slice aX0 an0 ac0)).setCell ⟨(w.heap.size + 2), 8, none⟩ (.int .i64 ae0)).setCell ⟨(w.heap.size + 2), 9, none⟩ (.bool ag1)).setCell ⟨(w.heap.size + 2), 10, none⟩ (.slice aX1 an1 ac1)).setCell ⟨(w.heap.size + 2), 11, none⟩ (.int .i64 ae1)).drew := ⟨_, rfl⟩
  have ko0 : Blk _ (w.heap.size + 2) 31 #[.int .u8 1, .int .i64 afr, .int .i64 att, .int .i64 aep, .int .i64 anu, .int .i64 0, .bool ag0, .slice none 0 0, .int .i64 0, .bool false, .slice none 0 0, .int .i64 0, .bool false, .slice none 0 0, .int .i64 0, .bool false, .slice none 0 0, .int .i64 0, .bool false, .slice none 0 0, .bool false, .int .i64 0, .int .i64 0, .slice none 0 0] := (show _ from by simpa using ko.set_ 6 (.bool ag0))
  have ko1 : Blk _ (w.heap.size + 2) 31 #[.int .u8 1, .int .i64 afr, .int .i64 att, .int .i64 aep, .int .i64 anu, .int .i64 0, .bool ag0, .slice aX0 an0 ac0, .int .i64 0, .bool false, .slice none 0 0, .int .i64 0, .bool false, .slice none 0 0, .int .i64 0, .bool false, .slice none 0 0, .int .i64 0, .bool false, .slice none 0 0, .bool false, .int .i64 0, .int .i64 0, .slice none 0 0] := (show _ from by simpa using ko0.set_ 7 (.slice aX0 an0 ac0))
  have ko2 : Blk _ (w.heap.size + 2) 31 #[.int .u8 1, .int .i64 afr, .int .i64 att, .int .i64 aep, .int .i64 anu, .int .i64 0, .bool ag0, .slice aX0 an0 ac0, .int .i64 ae0, .bool false, .slice none 0 0, .int .i64 0, .bool false, .slice none 0 0, .int .i64 0, .bool false, .slice none 0 0, .int .i64 0, .bool false, .slice none 0 0, .bool false, .int .i64 0, .int .i64 0, .slice none 0 0] := (show _ from by simpa using ko1.set_ 8 (.int .i64 ae0))
  have ko3 : Blk _ (w.heap.size + 2) 31 #[.int .u8 1, .int .i64 afr, .int .i64 att, .int .i64 aep, .int .i64 anu, .int .i64 0, .bool ag0, .slice aX0 an0 ac0, .int .i64 ae0, .bool ag1, .slice none 0 0, .int .i64 0, .bool false, .slice none 0 0, .int .i64 0, .bool false, .slice none 0 0, .int .i64 0, .bool false, .slice none 0 0, .bool false, .int .i64 0, .int .i64 0, .slice none 0 0] := (show _ from by simpa using ko2.set_ 9 (.bool ag1))
  have ko4 : Blk _ (w.heap.size + 2) 31 #[.int .u8 1, .int .i64 afr, .int .i64 att, .int .i64 aep, .int .i64 anu, .int .i64 0, .bool ag0, .slice aX0 an0 ac0, .int .i64 ae0, .bool ag1, .slice aX1 an1 ac1, .int .i64 0, .bool false, .slice none 0 0, .int .i64 0, .bool false, .slice none 0 0, .int .i64 0, .bool false, .slice none 0 0, .bool false, .int .i64 0, .int .i64 0, .slice none 0 0] := (show _ from by simpa using ko3.set_ 10 (.slice aX1 an1 ac1))
  have ko5 : Blk _ (w.heap.size + 2) 31 (ph7 afr att aep anu ag0 aX0 an0 ac0 ae0 ag1 aX1 an1 ac1 ae1) := (show _ from by simpa using ko4.set_ 11 (.int .i64 ae1))
  have kx : Blk X (w.heap.size + 2) 31 (ph7 afr att aep anu ag0 aX0 an0 ac0 ae0 ag1 aX1 an1 ac1 ae1) := by rw [hX]; exact ko5.drew
  have kz : Blk X (w.heap.size + 1) 31 ph18 := by rw [hX]; exact ((((((kr.far (p := ⟨(w.heap.size + 2), 6, none⟩) (by show _ ≠ w.heap.size + 2; omega) (.bool ag0)).far (p := ⟨(w.heap.size + 2), 7, none⟩) (by show _ ≠ w.heap.size + 2; omega) (.slice aX0 an0 ac0)).far (p := ⟨(w.heap.size + 2), 8, none⟩) (by show _ ≠ w.heap.size + 2; omega) (.int .i64 ae0)).far (p := ⟨(w.heap.size + 2), 9, none⟩) (by show _ ≠ w.heap.size + 2; omega) (.bool ag1)).far (p := ⟨(w.heap.size + 2), 10, none⟩) (by show _ ≠ w.heap.size + 2; omega) (.slice aX1 an1 ac1)).far (p := ⟨(w.heap.size + 2), 11, none⟩) (by show _ ≠ w.heap.size + 2; omega) (.int .i64 ae1)).drew
  have hx : Below w.heap.size w X := by rw [hX]; exact (Below.drew ((((((hB.setCell (p := ⟨(w.heap.size + 2), 6, none⟩) (by show _ ≤ w.heap.size + 2; omega) (.bool ag0)).setCell (p := ⟨(w.heap.size + 2), 7, none⟩) (by show _ ≤ w.heap.size + 2; omega) (.slice aX0 an0 ac0)).setCell (p := ⟨(w.heap.size + 2), 8, none⟩) (by show _ ≤ w.heap.size + 2; omega) (.int .i64 ae0)).setCell (p := ⟨(w.heap.size + 2), 9, none⟩) (by show _ ≤ w.heap.size + 2; omega) (.bool ag1)).setCell (p := ⟨(w.heap.size + 2), 10, none⟩) (by show _ ≤ w.heap.size + 2; omega) (.slice aX1 an1 ac1)).setCell (p := ⟨(w.heap.size + 2), 11, none⟩) (by show _ ≤ w.heap.size + 2; omega) (.int .i64 ae1)))
  rw [← hX]
  clear hX hB kr ko ka ko0 a6 o6 of6 ko1 a7 o7 of7 ko2 a8 o8 of8 ko3 a9 o9 of9 ko4 a10 o10 of10 ko5 a11 o11 of11
  go_upto_region 15 with (fail)
  have kf := kz.setRow (ph7 afr att aep anu ag0 aX0 an0 ac0 ae0 ag1 aX1 an1 ac1 ae1)
  have hf := below_setRow (g := (w.heap.size + 1)) hx (by omega) (ph7 afr att aep anu ag0 aX0 an0 ac0 ae0 ag1 aX1 an1 ac1 ae1)
  go_wp2_with (first | (refine wpList_load_row rfl 31 _ rfl (w.heap.size + 2) rfl 31 (ph7 afr att aep anu ag0 aX0 an0 ac0 ae0 ag1 aX1 an1 ac1 ae1) (0, 0) _ kx.row Try.underlying31 rfl (by kernel_rfl) ?_) | (refine wpList_store_row rfl 31 _ _ rfl (w.heap.size + 1) (ph7 afr att aep anu ag0 aX0 an0 ac0 ae0 ag1 aX1 an1 ac1 ae1) rfl rfl 31 ph18 kz.row (by kernel_rfl) rfl (by simp [Value.oneCell']) ?_))
  (try simp only [Exit.inBlock, Exit.then])
  refine bodyPost_ret (results_cell_row rfl _ _ (w.heap.size + 1) 31 (ph7 afr att aep anu ag0 aX0 an0 ac0 ae0 ag1 aX1 an1 ac1 ae1) (0, 0) _ rfl kf.row Try.underlying31 rfl (by kernel_rfl)) rfl ?_
  exact ⟨rfl, hf⟩
set_option maxRecDepth 100000 in
set_option maxHeartbeats 16000000 in
theorem used2 {afr att aep anu aab : Int} {ag0 : Bool} {aX0 : Option Addr} {an0 ac0 : Nat} {ae0 : Int} {ag1 : Bool} {aX1 : Option Addr} {an1 ac1 : Nat} {ae1 : Int} {ag2 : Bool} {aX2 : Option Addr} {an2 ac2 : Nat} {ae2 : Int} {ag3 : Bool} {aX3 : Option Addr} {an3 ac3 : Nat} {ae3 : Int} {awa : Bool} {aD : Option Addr} {adn adc : Nat} {aeh : Bool} {ax1 ax2 : Int} {aL : Option Addr} {aln alc : Nat} (w : World) : Calls Try.prog 45 #[.agg (ph1 afr att aep anu aab ag0 aX0 an0 ac0 ae0 ag1 aX1 an1 ac1 ae1 ag2 aX2 an2 ac2 ae2 ag3 aX3 an3 ac3 ae3 awa aD adn adc aeh ax1 ax2 aL aln alc)] w fun en w' => en = .returned (.agg (ph8 afr att aep anu ag2 aX2 an2 ac2 ae2 ag3 aX3 an3 ac3 ae3)) ∧ Below w.heap.size w w' := by
  obtain ⟨V, hV⟩ : ∃ V, V = (w.alloc (.cells (ph1 afr att aep anu aab ag0 aX0 an0 ac0 ae0 ag1 aX1 an1 ac1 ae1 ag2 aX2 an2 ac2 ae2 ag3 aX3 an3 ac3 ae3 awa aD adn adc aeh ax1 ax2 aL aln alc) 31)).alloc (.cells ph18 31) := ⟨_, rfl⟩
  have hB : Below w.heap.size w V := by rw [hV]; exact ((Below.refl _ _).alloc (Nat.le_refl _) _).alloc (by simp) _
  have ka : Blk V w.heap.size 31 (ph1 afr att aep anu aab ag0 aX0 an0 ac0 ae0 ag1 aX1 an1 ac1 ae1 ag2 aX2 an2 ac2 ae2 ag3 aX3 an3 ac3 ae3 awa aD adn adc aeh ax1 ax2 aL aln alc) := by rw [hV]; exact (Blk.new w _ _).alloc _
  have kr : Blk V (w.heap.size + 1) 31 ph18 := by rw [hV]; simpa using Blk.new (w.alloc (.cells (ph1 afr att aep anu aab ag0 aX0 an0 ac0 ae0 ag1 aX1 an1 ac1 ae1 ag2 aX2 an2 ac2 ae2 ag3 aX3 an3 ac3 ae3 awa aD adn adc aeh ax1 ax2 aL aln alc) 31)) 31 ph18
  have hVs : V.heap.size = w.heap.size + 2 := by rw [hV]; simp
  go_enter Try.func45, Try.ntmps45
  go_upto_region 1 with (fail)
  rw [← hV]
  clear hV
  have a0 : V.cell? ⟨w.heap.size, 0, none⟩ = some (.int .u8 2) := by rw [ka.cell]; rfl
  have a1 : V.cell? ⟨w.heap.size, 1, none⟩ = some (.int .i64 afr) := by rw [ka.cell]; rfl
  have a2 : V.cell? ⟨w.heap.size, 2, none⟩ = some (.int .i64 att) := by rw [ka.cell]; rfl
  have a3 : V.cell? ⟨w.heap.size, 3, none⟩ = some (.int .i64 aep) := by rw [ka.cell]; rfl
  have a4 : V.cell? ⟨w.heap.size, 4, none⟩ = some (.int .i64 anu) := by rw [ka.cell]; rfl
  have hg0 : (V.alloc (.cells ph18 31)).heap[w.heap.size + 2]? = some (.cells ph18 31 (0, 0)) := by rw [← hVs]; exact Blk.new V 31 ph18
  go_upto_region 2 with (refine wpList_store_row rfl 31 _ _ rfl (w.heap.size + 2) (ph12 afr att aep anu) rfl rfl 31 ph18 hg0 (by kernel_rfl) rfl (by simp [Value.oneCell']) ?_)
  clear a0 a1 a2 a3 a4
  obtain ⟨U, hU⟩ : ∃ U, U = (V.alloc (.cells ph18 31)).setRow (w.heap.size + 2) (ph12 afr att aep anu) := ⟨_, rfl⟩
  have kn : Blk (V.alloc (.cells ph18 31)) (w.heap.size + 2) 31 ph18 := by rw [← hVs]; exact Blk.new V 31 ph18
  have ko := kn.setRow (ph12 afr att aep anu)
  replace ka := (ka.alloc (.cells ph18 31)).setRow_far (k := (w.heap.size + 2)) (by omega) (ph12 afr att aep anu)
  replace kr := (kr.alloc (.cells ph18 31)).setRow_far (k := (w.heap.size + 2)) (by omega) (ph12 afr att aep anu)
  replace hB := below_setRow (g := (w.heap.size + 2)) (hB.alloc (by omega) (.cells ph18 31)) (by omega) (ph12 afr att aep anu)
  rw [← hU] at ko ka kr hB ⊢
  clear hU kn hVs
  have a0 : U.cell? ⟨w.heap.size, 0, none⟩ = some (.int .u8 2) := by rw [ka.cell]; rfl
  go_upto_region 12 with (fail)
  clear a0
  have a12 : U.cell? ⟨w.heap.size, 12, none⟩ = some (.bool ag2) := by rw [ka.cell]; rfl
  have a13 : U.cell? ⟨w.heap.size, 13, none⟩ = some (.slice aX2 an2 ac2) := by rw [ka.cell]; rfl
  have a14 : U.cell? ⟨w.heap.size, 14, none⟩ = some (.int .i64 ae2) := by rw [ka.cell]; rfl
  have a15 : U.cell? ⟨w.heap.size, 15, none⟩ = some (.bool ag3) := by rw [ka.cell]; rfl
  have a16 : U.cell? ⟨w.heap.size, 16, none⟩ = some (.slice aX3 an3 ac3) := by rw [ka.cell]; rfl
  have a17 : U.cell? ⟨w.heap.size, 17, none⟩ = some (.int .i64 ae3) := by rw [ka.cell]; rfl
  have o12 : U.cell? ⟨(w.heap.size + 2), 12, none⟩ = some (.bool false) := by rw [ko.cell]; rfl
  have o13 : U.cell? ⟨(w.heap.size + 2), 13, none⟩ = some (.slice none 0 0) := by rw [ko.cell]; rfl
  have o14 : U.cell? ⟨(w.heap.size + 2), 14, none⟩ = some (.int .i64 0) := by rw [ko.cell]; rfl
  have o15 : U.cell? ⟨(w.heap.size + 2), 15, none⟩ = some (.bool false) := by rw [ko.cell]; rfl
  have o16 : U.cell? ⟨(w.heap.size + 2), 16, none⟩ = some (.slice none 0 0) := by rw [ko.cell]; rfl
  have o17 : U.cell? ⟨(w.heap.size + 2), 17, none⟩ = some (.int .i64 0) := by rw [ko.cell]; rfl
  have of12 : U.frozen? ⟨(w.heap.size + 2), 12, none⟩ = false := ko.frozen 12
  have of13 : U.frozen? ⟨(w.heap.size + 2), 13, none⟩ = false := ko.frozen 13
  have of14 : U.frozen? ⟨(w.heap.size + 2), 14, none⟩ = false := ko.frozen 14
  have of15 : U.frozen? ⟨(w.heap.size + 2), 15, none⟩ = false := ko.frozen 15
  have of16 : U.frozen? ⟨(w.heap.size + 2), 16, none⟩ = false := ko.frozen 16
  have of17 : U.frozen? ⟨(w.heap.size + 2), 17, none⟩ = false := ko.frozen 17
  go_region
  obtain ⟨X, hX⟩ : ∃ X, X = ((((((U.setCell ⟨(w.heap.size + 2), 12, none⟩ (.bool ag2)).setCell ⟨(w.heap.size + 2), 13, none⟩ (.slice aX2 an2 ac2)).setCell ⟨(w.heap.size + 2), 14, none⟩ (.int .i64 ae2)).setCell ⟨(w.heap.size + 2), 15, none⟩ (.bool ag3)).setCell ⟨(w.heap.size + 2), 16, none⟩ (.slice aX3 an3 ac3)).setCell ⟨(w.heap.size + 2), 17, none⟩ (.int .i64 ae3)).drew := ⟨_, rfl⟩
  have ko0 : Blk _ (w.heap.size + 2) 31 #[.int .u8 2, .int .i64 afr, .int .i64 att, .int .i64 aep, .int .i64 anu, .int .i64 0, .bool false, .slice none 0 0, .int .i64 0, .bool false, .slice none 0 0, .int .i64 0, .bool ag2, .slice none 0 0, .int .i64 0, .bool false, .slice none 0 0, .int .i64 0, .bool false, .slice none 0 0, .bool false, .int .i64 0, .int .i64 0, .slice none 0 0] := (show _ from by simpa using ko.set_ 12 (.bool ag2))
  have ko1 : Blk _ (w.heap.size + 2) 31 #[.int .u8 2, .int .i64 afr, .int .i64 att, .int .i64 aep, .int .i64 anu, .int .i64 0, .bool false, .slice none 0 0, .int .i64 0, .bool false, .slice none 0 0, .int .i64 0, .bool ag2, .slice aX2 an2 ac2, .int .i64 0, .bool false, .slice none 0 0, .int .i64 0, .bool false, .slice none 0 0, .bool false, .int .i64 0, .int .i64 0, .slice none 0 0] := (show _ from by simpa using ko0.set_ 13 (.slice aX2 an2 ac2))
  have ko2 : Blk _ (w.heap.size + 2) 31 #[.int .u8 2, .int .i64 afr, .int .i64 att, .int .i64 aep, .int .i64 anu, .int .i64 0, .bool false, .slice none 0 0, .int .i64 0, .bool false, .slice none 0 0, .int .i64 0, .bool ag2, .slice aX2 an2 ac2, .int .i64 ae2, .bool false, .slice none 0 0, .int .i64 0, .bool false, .slice none 0 0, .bool false, .int .i64 0, .int .i64 0, .slice none 0 0] := (show _ from by simpa using ko1.set_ 14 (.int .i64 ae2))
  have ko3 : Blk _ (w.heap.size + 2) 31 #[.int .u8 2, .int .i64 afr, .int .i64 att, .int .i64 aep, .int .i64 anu, .int .i64 0, .bool false, .slice none 0 0, .int .i64 0, .bool false, .slice none 0 0, .int .i64 0, .bool ag2, .slice aX2 an2 ac2, .int .i64 ae2, .bool ag3, .slice none 0 0, .int .i64 0, .bool false, .slice none 0 0, .bool false, .int .i64 0, .int .i64 0, .slice none 0 0] := (show _ from by simpa using ko2.set_ 15 (.bool ag3))
  have ko4 : Blk _ (w.heap.size + 2) 31 #[.int .u8 2, .int .i64 afr, .int .i64 att, .int .i64 aep, .int .i64 anu, .int .i64 0, .bool false, .slice none 0 0, .int .i64 0, .bool false, .slice none 0 0, .int .i64 0, .bool ag2, .slice aX2 an2 ac2, .int .i64 ae2, .bool ag3, .slice aX3 an3 ac3, .int .i64 0, .bool false, .slice none 0 0, .bool false, .int .i64 0, .int .i64 0, .slice none 0 0] := (show _ from by simpa using ko3.set_ 16 (.slice aX3 an3 ac3))
  have ko5 : Blk _ (w.heap.size + 2) 31 (ph8 afr att aep anu ag2 aX2 an2 ac2 ae2 ag3 aX3 an3 ac3 ae3) := (show _ from by simpa using ko4.set_ 17 (.int .i64 ae3))
  have kx : Blk X (w.heap.size + 2) 31 (ph8 afr att aep anu ag2 aX2 an2 ac2 ae2 ag3 aX3 an3 ac3 ae3) := by rw [hX]; exact ko5.drew
  have kz : Blk X (w.heap.size + 1) 31 ph18 := by rw [hX]; exact ((((((kr.far (p := ⟨(w.heap.size + 2), 12, none⟩) (by show _ ≠ w.heap.size + 2; omega) (.bool ag2)).far (p := ⟨(w.heap.size + 2), 13, none⟩) (by show _ ≠ w.heap.size + 2; omega) (.slice aX2 an2 ac2)).far (p := ⟨(w.heap.size + 2), 14, none⟩) (by show _ ≠ w.heap.size + 2; omega) (.int .i64 ae2)).far (p := ⟨(w.heap.size + 2), 15, none⟩) (by show _ ≠ w.heap.size + 2; omega) (.bool ag3)).far (p := ⟨(w.heap.size + 2), 16, none⟩) (by show _ ≠ w.heap.size + 2; omega) (.slice aX3 an3 ac3)).far (p := ⟨(w.heap.size + 2), 17, none⟩) (by show _ ≠ w.heap.size + 2; omega) (.int .i64 ae3)).drew
  have hx : Below w.heap.size w X := by rw [hX]; exact (Below.drew ((((((hB.setCell (p := ⟨(w.heap.size + 2), 12, none⟩) (by show _ ≤ w.heap.size + 2; omega) (.bool ag2)).setCell (p := ⟨(w.heap.size + 2), 13, none⟩) (by show _ ≤ w.heap.size + 2; omega) (.slice aX2 an2 ac2)).setCell (p := ⟨(w.heap.size + 2), 14, none⟩) (by show _ ≤ w.heap.size + 2; omega) (.int .i64 ae2)).setCell (p := ⟨(w.heap.size + 2), 15, none⟩) (by show _ ≤ w.heap.size + 2; omega) (.bool ag3)).setCell (p := ⟨(w.heap.size + 2), 16, none⟩) (by show _ ≤ w.heap.size + 2; omega) (.slice aX3 an3 ac3)).setCell (p := ⟨(w.heap.size + 2), 17, none⟩) (by show _ ≤ w.heap.size + 2; omega) (.int .i64 ae3)))
  rw [← hX]
  clear hX hB kr ko ka ko0 a12 o12 of12 ko1 a13 o13 of13 ko2 a14 o14 of14 ko3 a15 o15 of15 ko4 a16 o16 of16 ko5 a17 o17 of17
  go_upto_region 15 with (fail)
  have kf := kz.setRow (ph8 afr att aep anu ag2 aX2 an2 ac2 ae2 ag3 aX3 an3 ac3 ae3)
  have hf := below_setRow (g := (w.heap.size + 1)) hx (by omega) (ph8 afr att aep anu ag2 aX2 an2 ac2 ae2 ag3 aX3 an3 ac3 ae3)
  go_wp2_with (first | (refine wpList_load_row rfl 31 _ rfl (w.heap.size + 2) rfl 31 (ph8 afr att aep anu ag2 aX2 an2 ac2 ae2 ag3 aX3 an3 ac3 ae3) (0, 0) _ kx.row Try.underlying31 rfl (by kernel_rfl) ?_) | (refine wpList_store_row rfl 31 _ _ rfl (w.heap.size + 1) (ph8 afr att aep anu ag2 aX2 an2 ac2 ae2 ag3 aX3 an3 ac3 ae3) rfl rfl 31 ph18 kz.row (by kernel_rfl) rfl (by simp [Value.oneCell']) ?_))
  (try simp only [Exit.inBlock, Exit.then])
  refine bodyPost_ret (results_cell_row rfl _ _ (w.heap.size + 1) 31 (ph8 afr att aep anu ag2 aX2 an2 ac2 ae2 ag3 aX3 an3 ac3 ae3) (0, 0) _ rfl kf.row Try.underlying31 rfl (by kernel_rfl)) rfl ?_
  exact ⟨rfl, hf⟩
set_option maxRecDepth 100000 in
set_option maxHeartbeats 16000000 in
theorem used3 {afr att aep anu aab : Int} {ag0 : Bool} {aX0 : Option Addr} {an0 ac0 : Nat} {ae0 : Int} {ag1 : Bool} {aX1 : Option Addr} {an1 ac1 : Nat} {ae1 : Int} {ag2 : Bool} {aX2 : Option Addr} {an2 ac2 : Nat} {ae2 : Int} {ag3 : Bool} {aX3 : Option Addr} {an3 ac3 : Nat} {ae3 : Int} {awa : Bool} {aD : Option Addr} {adn adc : Nat} {aeh : Bool} {ax1 ax2 : Int} {aL : Option Addr} {aln alc : Nat} (w : World) : Calls Try.prog 45 #[.agg (ph2 afr att aep anu aab ag0 aX0 an0 ac0 ae0 ag1 aX1 an1 ac1 ae1 ag2 aX2 an2 ac2 ae2 ag3 aX3 an3 ac3 ae3 awa aD adn adc aeh ax1 ax2 aL aln alc)] w fun en w' => en = .returned (.agg (ph6 afr att aep anu aab ag2 aX2 an2 ac2 ae2 ag3 aX3 an3 ac3 ae3)) ∧ Below w.heap.size w w' := by
  obtain ⟨V, hV⟩ : ∃ V, V = (w.alloc (.cells (ph2 afr att aep anu aab ag0 aX0 an0 ac0 ae0 ag1 aX1 an1 ac1 ae1 ag2 aX2 an2 ac2 ae2 ag3 aX3 an3 ac3 ae3 awa aD adn adc aeh ax1 ax2 aL aln alc) 31)).alloc (.cells ph18 31) := ⟨_, rfl⟩
  have hB : Below w.heap.size w V := by rw [hV]; exact ((Below.refl _ _).alloc (Nat.le_refl _) _).alloc (by simp) _
  have ka : Blk V w.heap.size 31 (ph2 afr att aep anu aab ag0 aX0 an0 ac0 ae0 ag1 aX1 an1 ac1 ae1 ag2 aX2 an2 ac2 ae2 ag3 aX3 an3 ac3 ae3 awa aD adn adc aeh ax1 ax2 aL aln alc) := by rw [hV]; exact (Blk.new w _ _).alloc _
  have kr : Blk V (w.heap.size + 1) 31 ph18 := by rw [hV]; simpa using Blk.new (w.alloc (.cells (ph2 afr att aep anu aab ag0 aX0 an0 ac0 ae0 ag1 aX1 an1 ac1 ae1 ag2 aX2 an2 ac2 ae2 ag3 aX3 an3 ac3 ae3 awa aD adn adc aeh ax1 ax2 aL aln alc) 31)) 31 ph18
  have hVs : V.heap.size = w.heap.size + 2 := by rw [hV]; simp
  go_enter Try.func45, Try.ntmps45
  go_upto_region 1 with (fail)
  rw [← hV]
  clear hV
  have a0 : V.cell? ⟨w.heap.size, 0, none⟩ = some (.int .u8 3) := by rw [ka.cell]; rfl
  have a1 : V.cell? ⟨w.heap.size, 1, none⟩ = some (.int .i64 afr) := by rw [ka.cell]; rfl
  have a2 : V.cell? ⟨w.heap.size, 2, none⟩ = some (.int .i64 att) := by rw [ka.cell]; rfl
  have a3 : V.cell? ⟨w.heap.size, 3, none⟩ = some (.int .i64 aep) := by rw [ka.cell]; rfl
  have a4 : V.cell? ⟨w.heap.size, 4, none⟩ = some (.int .i64 anu) := by rw [ka.cell]; rfl
  have hg0 : (V.alloc (.cells ph18 31)).heap[w.heap.size + 2]? = some (.cells ph18 31 (0, 0)) := by rw [← hVs]; exact Blk.new V 31 ph18
  go_upto_region 2 with (refine wpList_store_row rfl 31 _ _ rfl (w.heap.size + 2) (ph13 afr att aep anu) rfl rfl 31 ph18 hg0 (by kernel_rfl) rfl (by simp [Value.oneCell']) ?_)
  clear a0 a1 a2 a3 a4
  obtain ⟨U, hU⟩ : ∃ U, U = (V.alloc (.cells ph18 31)).setRow (w.heap.size + 2) (ph13 afr att aep anu) := ⟨_, rfl⟩
  have kn : Blk (V.alloc (.cells ph18 31)) (w.heap.size + 2) 31 ph18 := by rw [← hVs]; exact Blk.new V 31 ph18
  have ko := kn.setRow (ph13 afr att aep anu)
  replace ka := (ka.alloc (.cells ph18 31)).setRow_far (k := (w.heap.size + 2)) (by omega) (ph13 afr att aep anu)
  replace kr := (kr.alloc (.cells ph18 31)).setRow_far (k := (w.heap.size + 2)) (by omega) (ph13 afr att aep anu)
  replace hB := below_setRow (g := (w.heap.size + 2)) (hB.alloc (by omega) (.cells ph18 31)) (by omega) (ph13 afr att aep anu)
  rw [← hU] at ko ka kr hB ⊢
  clear hU kn hVs
  have a0 : U.cell? ⟨w.heap.size, 0, none⟩ = some (.int .u8 3) := by rw [ka.cell]; rfl
  go_upto_region 11 with (fail)
  clear a0
  have a5 : U.cell? ⟨w.heap.size, 5, none⟩ = some (.int .i64 aab) := by rw [ka.cell]; rfl
  have a12 : U.cell? ⟨w.heap.size, 12, none⟩ = some (.bool ag2) := by rw [ka.cell]; rfl
  have a13 : U.cell? ⟨w.heap.size, 13, none⟩ = some (.slice aX2 an2 ac2) := by rw [ka.cell]; rfl
  have a14 : U.cell? ⟨w.heap.size, 14, none⟩ = some (.int .i64 ae2) := by rw [ka.cell]; rfl
  have a15 : U.cell? ⟨w.heap.size, 15, none⟩ = some (.bool ag3) := by rw [ka.cell]; rfl
  have a16 : U.cell? ⟨w.heap.size, 16, none⟩ = some (.slice aX3 an3 ac3) := by rw [ka.cell]; rfl
  have a17 : U.cell? ⟨w.heap.size, 17, none⟩ = some (.int .i64 ae3) := by rw [ka.cell]; rfl
  have o5 : U.cell? ⟨(w.heap.size + 2), 5, none⟩ = some (.int .i64 0) := by rw [ko.cell]; rfl
  have o12 : U.cell? ⟨(w.heap.size + 2), 12, none⟩ = some (.bool false) := by rw [ko.cell]; rfl
  have o13 : U.cell? ⟨(w.heap.size + 2), 13, none⟩ = some (.slice none 0 0) := by rw [ko.cell]; rfl
  have o14 : U.cell? ⟨(w.heap.size + 2), 14, none⟩ = some (.int .i64 0) := by rw [ko.cell]; rfl
  have o15 : U.cell? ⟨(w.heap.size + 2), 15, none⟩ = some (.bool false) := by rw [ko.cell]; rfl
  have o16 : U.cell? ⟨(w.heap.size + 2), 16, none⟩ = some (.slice none 0 0) := by rw [ko.cell]; rfl
  have o17 : U.cell? ⟨(w.heap.size + 2), 17, none⟩ = some (.int .i64 0) := by rw [ko.cell]; rfl
  have of5 : U.frozen? ⟨(w.heap.size + 2), 5, none⟩ = false := ko.frozen 5
  have of12 : U.frozen? ⟨(w.heap.size + 2), 12, none⟩ = false := ko.frozen 12
  have of13 : U.frozen? ⟨(w.heap.size + 2), 13, none⟩ = false := ko.frozen 13
  have of14 : U.frozen? ⟨(w.heap.size + 2), 14, none⟩ = false := ko.frozen 14
  have of15 : U.frozen? ⟨(w.heap.size + 2), 15, none⟩ = false := ko.frozen 15
  have of16 : U.frozen? ⟨(w.heap.size + 2), 16, none⟩ = false := ko.frozen 16
  have of17 : U.frozen? ⟨(w.heap.size + 2), 17, none⟩ = false := ko.frozen 17
  go_upto_region 12 with (fail)
  go_region
  obtain ⟨X, hX⟩ : ∃ X, X = (((((((U.setCell ⟨(w.heap.size + 2), 5, none⟩ (.int .i64 aab)).setCell ⟨(w.heap.size + 2), 12, none⟩ (.bool ag2)).setCell ⟨(w.heap.size + 2), 13, none⟩ (.slice aX2 an2 ac2)).setCell ⟨(w.heap.size + 2), 14, none⟩ (.int .i64 ae2)).setCell ⟨(w.heap.size + 2), 15, none⟩ (.bool ag3)).setCell ⟨(w.heap.size + 2), 16, none⟩ (.slice aX3 an3 ac3)).setCell ⟨(w.heap.size + 2), 17, none⟩ (.int .i64 ae3)).drew := ⟨_, rfl⟩
  have ko0 : Blk _ (w.heap.size + 2) 31 #[.int .u8 3, .int .i64 afr, .int .i64 att, .int .i64 aep, .int .i64 anu, .int .i64 aab, .bool false, .slice none 0 0, .int .i64 0, .bool false, .slice none 0 0, .int .i64 0, .bool false, .slice none 0 0, .int .i64 0, .bool false, .slice none 0 0, .int .i64 0, .bool false, .slice none 0 0, .bool false, .int .i64 0, .int .i64 0, .slice none 0 0] := (show _ from by simpa using ko.set_ 5 (.int .i64 aab))
  have ko1 : Blk _ (w.heap.size + 2) 31 #[.int .u8 3, .int .i64 afr, .int .i64 att, .int .i64 aep, .int .i64 anu, .int .i64 aab, .bool false, .slice none 0 0, .int .i64 0, .bool false, .slice none 0 0, .int .i64 0, .bool ag2, .slice none 0 0, .int .i64 0, .bool false, .slice none 0 0, .int .i64 0, .bool false, .slice none 0 0, .bool false, .int .i64 0, .int .i64 0, .slice none 0 0] := (show _ from by simpa using ko0.set_ 12 (.bool ag2))
  have ko2 : Blk _ (w.heap.size + 2) 31 #[.int .u8 3, .int .i64 afr, .int .i64 att, .int .i64 aep, .int .i64 anu, .int .i64 aab, .bool false, .slice none 0 0, .int .i64 0, .bool false, .slice none 0 0, .int .i64 0, .bool ag2, .slice aX2 an2 ac2, .int .i64 0, .bool false, .slice none 0 0, .int .i64 0, .bool false, .slice none 0 0, .bool false, .int .i64 0, .int .i64 0, .slice none 0 0] := (show _ from by simpa using ko1.set_ 13 (.slice aX2 an2 ac2))
  have ko3 : Blk _ (w.heap.size + 2) 31 #[.int .u8 3, .int .i64 afr, .int .i64 att, .int .i64 aep, .int .i64 anu, .int .i64 aab, .bool false, .slice none 0 0, .int .i64 0, .bool false, .slice none 0 0, .int .i64 0, .bool ag2, .slice aX2 an2 ac2, .int .i64 ae2, .bool false, .slice none 0 0, .int .i64 0, .bool false, .slice none 0 0, .bool false, .int .i64 0, .int .i64 0, .slice none 0 0] := (show _ from by simpa using ko2.set_ 14 (.int .i64 ae2))
  have ko4 : Blk _ (w.heap.size + 2) 31 #[.int .u8 3, .int .i64 afr, .int .i64 att, .int .i64 aep, .int .i64 anu, .int .i64 aab, .bool false, .slice none 0 0, .int .i64 0, .bool false, .slice none 0 0, .int .i64 0, .bool ag2, .slice aX2 an2 ac2, .int .i64 ae2, .bool ag3, .slice none 0 0, .int .i64 0, .bool false, .slice none 0 0, .bool false, .int .i64 0, .int .i64 0, .slice none 0 0] := (show _ from by simpa using ko3.set_ 15 (.bool ag3))
  have ko5 : Blk _ (w.heap.size + 2) 31 #[.int .u8 3, .int .i64 afr, .int .i64 att, .int .i64 aep, .int .i64 anu, .int .i64 aab, .bool false, .slice none 0 0, .int .i64 0, .bool false, .slice none 0 0, .int .i64 0, .bool ag2, .slice aX2 an2 ac2, .int .i64 ae2, .bool ag3, .slice aX3 an3 ac3, .int .i64 0, .bool false, .slice none 0 0, .bool false, .int .i64 0, .int .i64 0, .slice none 0 0] := (show _ from by simpa using ko4.set_ 16 (.slice aX3 an3 ac3))
  have ko6 : Blk _ (w.heap.size + 2) 31 (ph6 afr att aep anu aab ag2 aX2 an2 ac2 ae2 ag3 aX3 an3 ac3 ae3) := (show _ from by simpa using ko5.set_ 17 (.int .i64 ae3))
  have kx : Blk X (w.heap.size + 2) 31 (ph6 afr att aep anu aab ag2 aX2 an2 ac2 ae2 ag3 aX3 an3 ac3 ae3) := by rw [hX]; exact ko6.drew
  have kz : Blk X (w.heap.size + 1) 31 ph18 := by rw [hX]; exact (((((((kr.far (p := ⟨(w.heap.size + 2), 5, none⟩) (by show _ ≠ w.heap.size + 2; omega) (.int .i64 aab)).far (p := ⟨(w.heap.size + 2), 12, none⟩) (by show _ ≠ w.heap.size + 2; omega) (.bool ag2)).far (p := ⟨(w.heap.size + 2), 13, none⟩) (by show _ ≠ w.heap.size + 2; omega) (.slice aX2 an2 ac2)).far (p := ⟨(w.heap.size + 2), 14, none⟩) (by show _ ≠ w.heap.size + 2; omega) (.int .i64 ae2)).far (p := ⟨(w.heap.size + 2), 15, none⟩) (by show _ ≠ w.heap.size + 2; omega) (.bool ag3)).far (p := ⟨(w.heap.size + 2), 16, none⟩) (by show _ ≠ w.heap.size + 2; omega) (.slice aX3 an3 ac3)).far (p := ⟨(w.heap.size + 2), 17, none⟩) (by show _ ≠ w.heap.size + 2; omega) (.int .i64 ae3)).drew
  have hx : Below w.heap.size w X := by rw [hX]; exact (Below.drew (((((((hB.setCell (p := ⟨(w.heap.size + 2), 5, none⟩) (by show _ ≤ w.heap.size + 2; omega) (.int .i64 aab)).setCell (p := ⟨(w.heap.size + 2), 12, none⟩) (by show _ ≤ w.heap.size + 2; omega) (.bool ag2)).setCell (p := ⟨(w.heap.size + 2), 13, none⟩) (by show _ ≤ w.heap.size + 2; omega) (.slice aX2 an2 ac2)).setCell (p := ⟨(w.heap.size + 2), 14, none⟩) (by show _ ≤ w.heap.size + 2; omega) (.int .i64 ae2)).setCell (p := ⟨(w.heap.size + 2), 15, none⟩) (by show _ ≤ w.heap.size + 2; omega) (.bool ag3)).setCell (p := ⟨(w.heap.size + 2), 16, none⟩) (by show _ ≤ w.heap.size + 2; omega) (.slice aX3 an3 ac3)).setCell (p := ⟨(w.heap.size + 2), 17, none⟩) (by show _ ≤ w.heap.size + 2; omega) (.int .i64 ae3)))
  rw [← hX]
  clear hX hB kr ko ka ko0 a5 o5 of5 ko1 a12 o12 of12 ko2 a13 o13 of13 ko3 a14 o14 of14 ko4 a15 o15 of15 ko5 a16 o16 of16 ko6 a17 o17 of17
  go_upto_region 15 with (fail)
  have kf := kz.setRow (ph6 afr att aep anu aab ag2 aX2 an2 ac2 ae2 ag3 aX3 an3 ac3 ae3)
  have hf := below_setRow (g := (w.heap.size + 1)) hx (by omega) (ph6 afr att aep anu aab ag2 aX2 an2 ac2 ae2 ag3 aX3 an3 ac3 ae3)
  go_wp2_with (first | (refine wpList_load_row rfl 31 _ rfl (w.heap.size + 2) rfl 31 (ph6 afr att aep anu aab ag2 aX2 an2 ac2 ae2 ag3 aX3 an3 ac3 ae3) (0, 0) _ kx.row Try.underlying31 rfl (by kernel_rfl) ?_) | (refine wpList_store_row rfl 31 _ _ rfl (w.heap.size + 1) (ph6 afr att aep anu aab ag2 aX2 an2 ac2 ae2 ag3 aX3 an3 ac3 ae3) rfl rfl 31 ph18 kz.row (by kernel_rfl) rfl (by simp [Value.oneCell']) ?_))
  (try simp only [Exit.inBlock, Exit.then])
  refine bodyPost_ret (results_cell_row rfl _ _ (w.heap.size + 1) 31 (ph6 afr att aep anu aab ag2 aX2 an2 ac2 ae2 ag3 aX3 an3 ac3 ae3) (0, 0) _ rfl kf.row Try.underlying31 rfl (by kernel_rfl)) rfl ?_
  exact ⟨rfl, hf⟩
set_option maxRecDepth 100000 in
set_option maxHeartbeats 16000000 in
theorem used4 {afr att aep anu aab : Int} {ag0 : Bool} {aX0 : Option Addr} {an0 ac0 : Nat} {ae0 : Int} {ag1 : Bool} {aX1 : Option Addr} {an1 ac1 : Nat} {ae1 : Int} {ag2 : Bool} {aX2 : Option Addr} {an2 ac2 : Nat} {ae2 : Int} {ag3 : Bool} {aX3 : Option Addr} {an3 ac3 : Nat} {ae3 : Int} {awa : Bool} {aD : Option Addr} {adn adc : Nat} {aeh : Bool} {ax1 ax2 : Int} {aL : Option Addr} {aln alc : Nat} (w : World) : Calls Try.prog 45 #[.agg (ph3 afr att aep anu aab ag0 aX0 an0 ac0 ae0 ag1 aX1 an1 ac1 ae1 ag2 aX2 an2 ac2 ae2 ag3 aX3 an3 ac3 ae3 awa aD adn adc aeh ax1 ax2 aL aln alc)] w fun en w' => en = .returned (.agg (ph10 afr att aep anu aab)) ∧ Below w.heap.size w w' := by
  obtain ⟨V, hV⟩ : ∃ V, V = (w.alloc (.cells (ph3 afr att aep anu aab ag0 aX0 an0 ac0 ae0 ag1 aX1 an1 ac1 ae1 ag2 aX2 an2 ac2 ae2 ag3 aX3 an3 ac3 ae3 awa aD adn adc aeh ax1 ax2 aL aln alc) 31)).alloc (.cells ph18 31) := ⟨_, rfl⟩
  have hB : Below w.heap.size w V := by rw [hV]; exact ((Below.refl _ _).alloc (Nat.le_refl _) _).alloc (by simp) _
  have ka : Blk V w.heap.size 31 (ph3 afr att aep anu aab ag0 aX0 an0 ac0 ae0 ag1 aX1 an1 ac1 ae1 ag2 aX2 an2 ac2 ae2 ag3 aX3 an3 ac3 ae3 awa aD adn adc aeh ax1 ax2 aL aln alc) := by rw [hV]; exact (Blk.new w _ _).alloc _
  have kr : Blk V (w.heap.size + 1) 31 ph18 := by rw [hV]; simpa using Blk.new (w.alloc (.cells (ph3 afr att aep anu aab ag0 aX0 an0 ac0 ae0 ag1 aX1 an1 ac1 ae1 ag2 aX2 an2 ac2 ae2 ag3 aX3 an3 ac3 ae3 awa aD adn adc aeh ax1 ax2 aL aln alc) 31)) 31 ph18
  have hVs : V.heap.size = w.heap.size + 2 := by rw [hV]; simp
  go_enter Try.func45, Try.ntmps45
  go_upto_region 1 with (fail)
  rw [← hV]
  clear hV
  have a0 : V.cell? ⟨w.heap.size, 0, none⟩ = some (.int .u8 4) := by rw [ka.cell]; rfl
  have a1 : V.cell? ⟨w.heap.size, 1, none⟩ = some (.int .i64 afr) := by rw [ka.cell]; rfl
  have a2 : V.cell? ⟨w.heap.size, 2, none⟩ = some (.int .i64 att) := by rw [ka.cell]; rfl
  have a3 : V.cell? ⟨w.heap.size, 3, none⟩ = some (.int .i64 aep) := by rw [ka.cell]; rfl
  have a4 : V.cell? ⟨w.heap.size, 4, none⟩ = some (.int .i64 anu) := by rw [ka.cell]; rfl
  have hg0 : (V.alloc (.cells ph18 31)).heap[w.heap.size + 2]? = some (.cells ph18 31 (0, 0)) := by rw [← hVs]; exact Blk.new V 31 ph18
  go_upto_region 2 with (refine wpList_store_row rfl 31 _ _ rfl (w.heap.size + 2) (ph14 afr att aep anu) rfl rfl 31 ph18 hg0 (by kernel_rfl) rfl (by simp [Value.oneCell']) ?_)
  clear a0 a1 a2 a3 a4
  obtain ⟨U, hU⟩ : ∃ U, U = (V.alloc (.cells ph18 31)).setRow (w.heap.size + 2) (ph14 afr att aep anu) := ⟨_, rfl⟩
  have kn : Blk (V.alloc (.cells ph18 31)) (w.heap.size + 2) 31 ph18 := by rw [← hVs]; exact Blk.new V 31 ph18
  have ko := kn.setRow (ph14 afr att aep anu)
  replace ka := (ka.alloc (.cells ph18 31)).setRow_far (k := (w.heap.size + 2)) (by omega) (ph14 afr att aep anu)
  replace kr := (kr.alloc (.cells ph18 31)).setRow_far (k := (w.heap.size + 2)) (by omega) (ph14 afr att aep anu)
  replace hB := below_setRow (g := (w.heap.size + 2)) (hB.alloc (by omega) (.cells ph18 31)) (by omega) (ph14 afr att aep anu)
  rw [← hU] at ko ka kr hB ⊢
  clear hU kn hVs
  have a0 : U.cell? ⟨w.heap.size, 0, none⟩ = some (.int .u8 4) := by rw [ka.cell]; rfl
  go_upto_region 10 with (fail)
  clear a0
  have a5 : U.cell? ⟨w.heap.size, 5, none⟩ = some (.int .i64 aab) := by rw [ka.cell]; rfl
  have o5 : U.cell? ⟨(w.heap.size + 2), 5, none⟩ = some (.int .i64 0) := by rw [ko.cell]; rfl
  have of5 : U.frozen? ⟨(w.heap.size + 2), 5, none⟩ = false := ko.frozen 5
  go_upto_region 15 with (fail)
  obtain ⟨X, hX⟩ : ∃ X, X = (U.setCell ⟨(w.heap.size + 2), 5, none⟩ (.int .i64 aab)) := ⟨_, rfl⟩
  have ko0 : Blk _ (w.heap.size + 2) 31 (ph10 afr att aep anu aab) := (show _ from by simpa using ko.set_ 5 (.int .i64 aab))
  have kx : Blk X (w.heap.size + 2) 31 (ph10 afr att aep anu aab) := by rw [hX]; exact ko0
  have kz : Blk X (w.heap.size + 1) 31 ph18 := by rw [hX]; exact (kr.far (p := ⟨(w.heap.size + 2), 5, none⟩) (by show _ ≠ w.heap.size + 2; omega) (.int .i64 aab))
  have hx : Below w.heap.size w X := by rw [hX]; exact (hB.setCell (p := ⟨(w.heap.size + 2), 5, none⟩) (by show _ ≤ w.heap.size + 2; omega) (.int .i64 aab))
  rw [← hX]
  clear hX hB kr ko ka ko0 a5 o5 of5
  have kf := kz.setRow (ph10 afr att aep anu aab)
  have hf := below_setRow (g := (w.heap.size + 1)) hx (by omega) (ph10 afr att aep anu aab)
  go_wp2_with (first | (refine wpList_load_row rfl 31 _ rfl (w.heap.size + 2) rfl 31 (ph10 afr att aep anu aab) (0, 0) _ kx.row Try.underlying31 rfl (by kernel_rfl) ?_) | (refine wpList_store_row rfl 31 _ _ rfl (w.heap.size + 1) (ph10 afr att aep anu aab) rfl rfl 31 ph18 kz.row (by kernel_rfl) rfl (by simp [Value.oneCell']) ?_))
  (try simp only [Exit.inBlock, Exit.then])
  refine bodyPost_ret (results_cell_row rfl _ _ (w.heap.size + 1) 31 (ph10 afr att aep anu aab) (0, 0) _ rfl kf.row Try.underlying31 rfl (by kernel_rfl)) rfl ?_
  exact ⟨rfl, hf⟩
set_option maxRecDepth 100000 in
set_option maxHeartbeats 16000000 in
theorem used5 {afr att aep anu aab : Int} {ag0 : Bool} {aX0 : Option Addr} {an0 ac0 : Nat} {ae0 : Int} {ag1 : Bool} {aX1 : Option Addr} {an1 ac1 : Nat} {ae1 : Int} {ag2 : Bool} {aX2 : Option Addr} {an2 ac2 : Nat} {ae2 : Int} {ag3 : Bool} {aX3 : Option Addr} {an3 ac3 : Nat} {ae3 : Int} {awa : Bool} {aD : Option Addr} {adn adc : Nat} {aeh : Bool} {ax1 ax2 : Int} {aL : Option Addr} {aln alc : Nat} (w : World) : Calls Try.prog 45 #[.agg (ph4 afr att aep anu aab ag0 aX0 an0 ac0 ae0 ag1 aX1 an1 ac1 ae1 ag2 aX2 an2 ac2 ae2 ag3 aX3 an3 ac3 ae3 awa aD adn adc aeh ax1 ax2 aL aln alc)] w fun en w' => en = .returned (.agg (ph15 afr att aep anu awa aD adn adc)) ∧ Below w.heap.size w w' := by
  obtain ⟨V, hV⟩ : ∃ V, V = (w.alloc (.cells (ph4 afr att aep anu aab ag0 aX0 an0 ac0 ae0 ag1 aX1 an1 ac1 ae1 ag2 aX2 an2 ac2 ae2 ag3 aX3 an3 ac3 ae3 awa aD adn adc aeh ax1 ax2 aL aln alc) 31)).alloc (.cells ph18 31) := ⟨_, rfl⟩
  have hB : Below w.heap.size w V := by rw [hV]; exact ((Below.refl _ _).alloc (Nat.le_refl _) _).alloc (by simp) _
  have ka : Blk V w.heap.size 31 (ph4 afr att aep anu aab ag0 aX0 an0 ac0 ae0 ag1 aX1 an1 ac1 ae1 ag2 aX2 an2 ac2 ae2 ag3 aX3 an3 ac3 ae3 awa aD adn adc aeh ax1 ax2 aL aln alc) := by rw [hV]; exact (Blk.new w _ _).alloc _
  have kr : Blk V (w.heap.size + 1) 31 ph18 := by rw [hV]; simpa using Blk.new (w.alloc (.cells (ph4 afr att aep anu aab ag0 aX0 an0 ac0 ae0 ag1 aX1 an1 ac1 ae1 ag2 aX2 an2 ac2 ae2 ag3 aX3 an3 ac3 ae3 awa aD adn adc aeh ax1 ax2 aL aln alc) 31)) 31 ph18
  have hVs : V.heap.size = w.heap.size + 2 := by rw [hV]; simp
  go_enter Try.func45, Try.ntmps45
  go_upto_region 1 with (fail)
  rw [← hV]
  clear hV
  have a0 : V.cell? ⟨w.heap.size, 0, none⟩ = some (.int .u8 5) := by rw [ka.cell]; rfl
  have a1 : V.cell? ⟨w.heap.size, 1, none⟩ = some (.int .i64 afr) := by rw [ka.cell]; rfl
  have a2 : V.cell? ⟨w.heap.size, 2, none⟩ = some (.int .i64 att) := by rw [ka.cell]; rfl
  have a3 : V.cell? ⟨w.heap.size, 3, none⟩ = some (.int .i64 aep) := by rw [ka.cell]; rfl
  have a4 : V.cell? ⟨w.heap.size, 4, none⟩ = some (.int .i64 anu) := by rw [ka.cell]; rfl
  have hg0 : (V.alloc (.cells ph18 31)).heap[w.heap.size + 2]? = some (.cells ph18 31 (0, 0)) := by rw [← hVs]; exact Blk.new V 31 ph18
  go_upto_region 2 with (refine wpList_store_row rfl 31 _ _ rfl (w.heap.size + 2) (ph16 afr att aep anu) rfl rfl 31 ph18 hg0 (by kernel_rfl) rfl (by simp [Value.oneCell']) ?_)
  clear a0 a1 a2 a3 a4
  obtain ⟨U, hU⟩ : ∃ U, U = (V.alloc (.cells ph18 31)).setRow (w.heap.size + 2) (ph16 afr att aep anu) := ⟨_, rfl⟩
  have kn : Blk (V.alloc (.cells ph18 31)) (w.heap.size + 2) 31 ph18 := by rw [← hVs]; exact Blk.new V 31 ph18
  have ko := kn.setRow (ph16 afr att aep anu)
  replace ka := (ka.alloc (.cells ph18 31)).setRow_far (k := (w.heap.size + 2)) (by omega) (ph16 afr att aep anu)
  replace kr := (kr.alloc (.cells ph18 31)).setRow_far (k := (w.heap.size + 2)) (by omega) (ph16 afr att aep anu)
  replace hB := below_setRow (g := (w.heap.size + 2)) (hB.alloc (by omega) (.cells ph18 31)) (by omega) (ph16 afr att aep anu)
  rw [← hU] at ko ka kr hB ⊢
  clear hU kn hVs
  have a0 : U.cell? ⟨w.heap.size, 0, none⟩ = some (.int .u8 5) := by rw [ka.cell]; rfl
  go_upto_region 13 with (fail)
  clear a0
  have a18 : U.cell? ⟨w.heap.size, 18, none⟩ = some (.bool awa) := by rw [ka.cell]; rfl
  have a19 : U.cell? ⟨w.heap.size, 19, none⟩ = some (.slice aD adn adc) := by rw [ka.cell]; rfl
  have o18 : U.cell? ⟨(w.heap.size + 2), 18, none⟩ = some (.bool false) := by rw [ko.cell]; rfl
  have o19 : U.cell? ⟨(w.heap.size + 2), 19, none⟩ = some (.slice none 0 0) := by rw [ko.cell]; rfl
  have of18 : U.frozen? ⟨(w.heap.size + 2), 18, none⟩ = false := ko.frozen 18
  have of19 : U.frozen? ⟨(w.heap.size + 2), 19, none⟩ = false := ko.frozen 19
  go_region
  obtain ⟨X, hX⟩ : ∃ X, X = ((U.setCell ⟨(w.heap.size + 2), 18, none⟩ (.bool awa)).setCell ⟨(w.heap.size + 2), 19, none⟩ (.slice aD adn adc)).drew := ⟨_, rfl⟩
  have ko0 : Blk _ (w.heap.size + 2) 31 #[.int .u8 5, .int .i64 afr, .int .i64 att, .int .i64 aep, .int .i64 anu, .int .i64 0, .bool false, .slice none 0 0, .int .i64 0, .bool false, .slice none 0 0, .int .i64 0, .bool false, .slice none 0 0, .int .i64 0, .bool false, .slice none 0 0, .int .i64 0, .bool awa, .slice none 0 0, .bool false, .int .i64 0, .int .i64 0, .slice none 0 0] := (show _ from by simpa using ko.set_ 18 (.bool awa))
  have ko1 : Blk _ (w.heap.size + 2) 31 (ph15 afr att aep anu awa aD adn adc) := (show _ from by simpa using ko0.set_ 19 (.slice aD adn adc))
  have kx : Blk X (w.heap.size + 2) 31 (ph15 afr att aep anu awa aD adn adc) := by rw [hX]; exact ko1.drew
  have kz : Blk X (w.heap.size + 1) 31 ph18 := by rw [hX]; exact ((kr.far (p := ⟨(w.heap.size + 2), 18, none⟩) (by show _ ≠ w.heap.size + 2; omega) (.bool awa)).far (p := ⟨(w.heap.size + 2), 19, none⟩) (by show _ ≠ w.heap.size + 2; omega) (.slice aD adn adc)).drew
  have hx : Below w.heap.size w X := by rw [hX]; exact (Below.drew ((hB.setCell (p := ⟨(w.heap.size + 2), 18, none⟩) (by show _ ≤ w.heap.size + 2; omega) (.bool awa)).setCell (p := ⟨(w.heap.size + 2), 19, none⟩) (by show _ ≤ w.heap.size + 2; omega) (.slice aD adn adc)))
  rw [← hX]
  clear hX hB kr ko ka ko0 a18 o18 of18 ko1 a19 o19 of19
  go_upto_region 15 with (fail)
  have kf := kz.setRow (ph15 afr att aep anu awa aD adn adc)
  have hf := below_setRow (g := (w.heap.size + 1)) hx (by omega) (ph15 afr att aep anu awa aD adn adc)
  go_wp2_with (first | (refine wpList_load_row rfl 31 _ rfl (w.heap.size + 2) rfl 31 (ph15 afr att aep anu awa aD adn adc) (0, 0) _ kx.row Try.underlying31 rfl (by kernel_rfl) ?_) | (refine wpList_store_row rfl 31 _ _ rfl (w.heap.size + 1) (ph15 afr att aep anu awa aD adn adc) rfl rfl 31 ph18 kz.row (by kernel_rfl) rfl (by simp [Value.oneCell']) ?_))
  (try simp only [Exit.inBlock, Exit.then])
  refine bodyPost_ret (results_cell_row rfl _ _ (w.heap.size + 1) 31 (ph15 afr att aep anu awa aD adn adc) (0, 0) _ rfl kf.row Try.underlying31 rfl (by kernel_rfl)) rfl ?_
  exact ⟨rfl, hf⟩
set_option maxRecDepth 100000 in
set_option maxHeartbeats 16000000 in
theorem used6 {afr att aep anu aab : Int} {ag0 : Bool} {aX0 : Option Addr} {an0 ac0 : Nat} {ae0 : Int} {ag1 : Bool} {aX1 : Option Addr} {an1 ac1 : Nat} {ae1 : Int} {ag2 : Bool} {aX2 : Option Addr} {an2 ac2 : Nat} {ae2 : Int} {ag3 : Bool} {aX3 : Option Addr} {an3 ac3 : Nat} {ae3 : Int} {awa : Bool} {aD : Option Addr} {adn adc : Nat} {aeh : Bool} {ax1 ax2 : Int} {aL : Option Addr} {aln alc : Nat} (w : World) : Calls Try.prog 45 #[.agg (ph5 afr att aep anu aab ag0 aX0 an0 ac0 ae0 ag1 aX1 an1 ac1 ae1 ag2 aX2 an2 ac2 ae2 ag3 aX3 an3 ac3 ae3 awa aD adn adc aeh ax1 ax2 aL aln alc)] w fun en w' => en = .returned (.agg (ph9 afr att aep anu aeh ax1 ax2 aL aln alc)) ∧ Below w.heap.size w w' := by
  obtain ⟨V, hV⟩ : ∃ V, V = (w.alloc (.cells (ph5 afr att aep anu aab ag0 aX0 an0 ac0 ae0 ag1 aX1 an1 ac1 ae1 ag2 aX2 an2 ac2 ae2 ag3 aX3 an3 ac3 ae3 awa aD adn adc aeh ax1 ax2 aL aln alc) 31)).alloc (.cells ph18 31) := ⟨_, rfl⟩
  have hB : Below w.heap.size w V := by rw [hV]; exact ((Below.refl _ _).alloc (Nat.le_refl _) _).alloc (by simp) _
  have ka : Blk V w.heap.size 31 (ph5 afr att aep anu aab ag0 aX0 an0 ac0 ae0 ag1 aX1 an1 ac1 ae1 ag2 aX2 an2 ac2 ae2 ag3 aX3 an3 ac3 ae3 awa aD adn adc aeh ax1 ax2 aL aln alc) := by rw [hV]; exact (Blk.new w _ _).alloc _
  have kr : Blk V (w.heap.size + 1) 31 ph18 := by rw [hV]; simpa using Blk.new (w.alloc (.cells (ph5 afr att aep anu aab ag0 aX0 an0 ac0 ae0 ag1 aX1 an1 ac1 ae1 ag2 aX2 an2 ac2 ae2 ag3 aX3 an3 ac3 ae3 awa aD adn adc aeh ax1 ax2 aL aln alc) 31)) 31 ph18
  have hVs : V.heap.size = w.heap.size + 2 := by rw [hV]; simp
  go_enter Try.func45, Try.ntmps45
  go_upto_region 1 with (fail)
  rw [← hV]
  clear hV
  have a0 : V.cell? ⟨w.heap.size, 0, none⟩ = some (.int .u8 6) := by rw [ka.cell]; rfl
  have a1 : V.cell? ⟨w.heap.size, 1, none⟩ = some (.int .i64 afr) := by rw [ka.cell]; rfl
  have a2 : V.cell? ⟨w.heap.size, 2, none⟩ = some (.int .i64 att) := by rw [ka.cell]; rfl
  have a3 : V.cell? ⟨w.heap.size, 3, none⟩ = some (.int .i64 aep) := by rw [ka.cell]; rfl
  have a4 : V.cell? ⟨w.heap.size, 4, none⟩ = some (.int .i64 anu) := by rw [ka.cell]; rfl
  have hg0 : (V.alloc (.cells ph18 31)).heap[w.heap.size + 2]? = some (.cells ph18 31 (0, 0)) := by rw [← hVs]; exact Blk.new V 31 ph18
  go_upto_region 2 with (refine wpList_store_row rfl 31 _ _ rfl (w.heap.size + 2) (ph17 afr att aep anu) rfl rfl 31 ph18 hg0 (by kernel_rfl) rfl (by simp [Value.oneCell']) ?_)
  clear a0 a1 a2 a3 a4
  obtain ⟨U, hU⟩ : ∃ U, U = (V.alloc (.cells ph18 31)).setRow (w.heap.size + 2) (ph17 afr att aep anu) := ⟨_, rfl⟩
  have kn : Blk (V.alloc (.cells ph18 31)) (w.heap.size + 2) 31 ph18 := by rw [← hVs]; exact Blk.new V 31 ph18
  have ko := kn.setRow (ph17 afr att aep anu)
  replace ka := (ka.alloc (.cells ph18 31)).setRow_far (k := (w.heap.size + 2)) (by omega) (ph17 afr att aep anu)
  replace kr := (kr.alloc (.cells ph18 31)).setRow_far (k := (w.heap.size + 2)) (by omega) (ph17 afr att aep anu)
  replace hB := below_setRow (g := (w.heap.size + 2)) (hB.alloc (by omega) (.cells ph18 31)) (by omega) (ph17 afr att aep anu)
  rw [← hU] at ko ka kr hB ⊢
  clear hU kn hVs
  have a0 : U.cell? ⟨w.heap.size, 0, none⟩ = some (.int .u8 6) := by rw [ka.cell]; rfl
  go_upto_region 14 with (fail)
  clear a0
  have a20 : U.cell? ⟨w.heap.size, 20, none⟩ = some (.bool aeh) := by rw [ka.cell]; rfl
  have a21 : U.cell? ⟨w.heap.size, 21, none⟩ = some (.int .i64 ax1) := by rw [ka.cell]; rfl
  have a22 : U.cell? ⟨w.heap.size, 22, none⟩ = some (.int .i64 ax2) := by rw [ka.cell]; rfl
  have a23 : U.cell? ⟨w.heap.size, 23, none⟩ = some (.slice aL aln alc) := by rw [ka.cell]; rfl
  have o20 : U.cell? ⟨(w.heap.size + 2), 20, none⟩ = some (.bool false) := by rw [ko.cell]; rfl
  have o21 : U.cell? ⟨(w.heap.size + 2), 21, none⟩ = some (.int .i64 0) := by rw [ko.cell]; rfl
  have o22 : U.cell? ⟨(w.heap.size + 2), 22, none⟩ = some (.int .i64 0) := by rw [ko.cell]; rfl
  have o23 : U.cell? ⟨(w.heap.size + 2), 23, none⟩ = some (.slice none 0 0) := by rw [ko.cell]; rfl
  have of20 : U.frozen? ⟨(w.heap.size + 2), 20, none⟩ = false := ko.frozen 20
  have of21 : U.frozen? ⟨(w.heap.size + 2), 21, none⟩ = false := ko.frozen 21
  have of22 : U.frozen? ⟨(w.heap.size + 2), 22, none⟩ = false := ko.frozen 22
  have of23 : U.frozen? ⟨(w.heap.size + 2), 23, none⟩ = false := ko.frozen 23
  go_region
  obtain ⟨X, hX⟩ : ∃ X, X = ((((U.setCell ⟨(w.heap.size + 2), 20, none⟩ (.bool aeh)).setCell ⟨(w.heap.size + 2), 21, none⟩ (.int .i64 ax1)).setCell ⟨(w.heap.size + 2), 22, none⟩ (.int .i64 ax2)).setCell ⟨(w.heap.size + 2), 23, none⟩ (.slice aL aln alc)).drew := ⟨_, rfl⟩
  have ko0 : Blk _ (w.heap.size + 2) 31 #[.int .u8 6, .int .i64 afr, .int .i64 att, .int .i64 aep, .int .i64 anu, .int .i64 0, .bool false, .slice none 0 0, .int .i64 0, .bool false, .slice none 0 0, .int .i64 0, .bool false, .slice none 0 0, .int .i64 0, .bool false, .slice none 0 0, .int .i64 0, .bool false, .slice none 0 0, .bool aeh, .int .i64 0, .int .i64 0, .slice none 0 0] := (show _ from by simpa using ko.set_ 20 (.bool aeh))
  have ko1 : Blk _ (w.heap.size + 2) 31 #[.int .u8 6, .int .i64 afr, .int .i64 att, .int .i64 aep, .int .i64 anu, .int .i64 0, .bool false, .slice none 0 0, .int .i64 0, .bool false, .slice none 0 0, .int .i64 0, .bool false, .slice none 0 0, .int .i64 0, .bool false, .slice none 0 0, .int .i64 0, .bool false, .slice none 0 0, .bool aeh, .int .i64 ax1, .int .i64 0, .slice none 0 0] := (show _ from by simpa using ko0.set_ 21 (.int .i64 ax1))
  have ko2 : Blk _ (w.heap.size + 2) 31 #[.int .u8 6, .int .i64 afr, .int .i64 att, .int .i64 aep, .int .i64 anu, .int .i64 0, .bool false, .slice none 0 0, .int .i64 0, .bool false, .slice none 0 0, .int .i64 0, .bool false, .slice none 0 0, .int .i64 0, .bool false, .slice none 0 0, .int .i64 0, .bool false, .slice none 0 0, .bool aeh, .int .i64 ax1, .int .i64 ax2, .slice none 0 0] := (show _ from by simpa using ko1.set_ 22 (.int .i64 ax2))
  have ko3 : Blk _ (w.heap.size + 2) 31 (ph9 afr att aep anu aeh ax1 ax2 aL aln alc) := (show _ from by simpa using ko2.set_ 23 (.slice aL aln alc))
  have kx : Blk X (w.heap.size + 2) 31 (ph9 afr att aep anu aeh ax1 ax2 aL aln alc) := by rw [hX]; exact ko3.drew
  have kz : Blk X (w.heap.size + 1) 31 ph18 := by rw [hX]; exact ((((kr.far (p := ⟨(w.heap.size + 2), 20, none⟩) (by show _ ≠ w.heap.size + 2; omega) (.bool aeh)).far (p := ⟨(w.heap.size + 2), 21, none⟩) (by show _ ≠ w.heap.size + 2; omega) (.int .i64 ax1)).far (p := ⟨(w.heap.size + 2), 22, none⟩) (by show _ ≠ w.heap.size + 2; omega) (.int .i64 ax2)).far (p := ⟨(w.heap.size + 2), 23, none⟩) (by show _ ≠ w.heap.size + 2; omega) (.slice aL aln alc)).drew
  have hx : Below w.heap.size w X := by rw [hX]; exact (Below.drew ((((hB.setCell (p := ⟨(w.heap.size + 2), 20, none⟩) (by show _ ≤ w.heap.size + 2; omega) (.bool aeh)).setCell (p := ⟨(w.heap.size + 2), 21, none⟩) (by show _ ≤ w.heap.size + 2; omega) (.int .i64 ax1)).setCell (p := ⟨(w.heap.size + 2), 22, none⟩) (by show _ ≤ w.heap.size + 2; omega) (.int .i64 ax2)).setCell (p := ⟨(w.heap.size + 2), 23, none⟩) (by show _ ≤ w.heap.size + 2; omega) (.slice aL aln alc)))
  rw [← hX]
  clear hX hB kr ko ka ko0 a20 o20 of20 ko1 a21 o21 of21 ko2 a22 o22 of22 ko3 a23 o23 of23
  go_upto_region 15 with (fail)
  have kf := kz.setRow (ph9 afr att aep anu aeh ax1 ax2 aL aln alc)
  have hf := below_setRow (g := (w.heap.size + 1)) hx (by omega) (ph9 afr att aep anu aeh ax1 ax2 aL aln alc)
  go_wp2_with (first | (refine wpList_load_row rfl 31 _ rfl (w.heap.size + 2) rfl 31 (ph9 afr att aep anu aeh ax1 ax2 aL aln alc) (0, 0) _ kx.row Try.underlying31 rfl (by kernel_rfl) ?_) | (refine wpList_store_row rfl 31 _ _ rfl (w.heap.size + 1) (ph9 afr att aep anu aeh ax1 ax2 aL aln alc) rfl rfl 31 ph18 kz.row (by kernel_rfl) rfl (by simp [Value.oneCell']) ?_))
  (try simp only [Exit.inBlock, Exit.then])
  refine bodyPost_ret (results_cell_row rfl _ _ (w.heap.size + 1) 31 (ph9 afr att aep anu aeh ax1 ax2 aL aln alc) (0, 0) _ rfl kf.row Try.underlying31 rfl (by kernel_rfl)) rfl ?_
  exact ⟨rfl, hf⟩
end Go.Proofs.Ytjmhefkmpfkpbaa
