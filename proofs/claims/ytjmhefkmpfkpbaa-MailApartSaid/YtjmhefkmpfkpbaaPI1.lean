/- Mail: mail.Check: numbers that may not be -/
import Derived.Test.YtjmhefkmpfkpbaaPG
import Derived.Deep.Cut
namespace Go.Proofs.Ytjmhefkmpfkpbaa
open Go.ChangeShapes Go.WideShapes Go.ChangeAt Go.RowKit
set_option linter.unusedSimpArgs false
set_option linter.unusedVariables false
set_option maxRecDepth 100000 in
set_option maxHeartbeats 16000000 in
theorem ckn0 {akd afr att aep anu aab : Int} {ag0 : Bool} {aX0 : Option Addr} {an0 ac0 : Nat} {ae0 : Int} {ag1 : Bool} {aX1 : Option Addr} {an1 ac1 : Nat} {ae1 : Int} {ag2 : Bool} {aX2 : Option Addr} {an2 ac2 : Nat} {ae2 : Int} {ag3 : Bool} {aX3 : Option Addr} {an3 ac3 : Nat} {ae3 : Int} {awa : Bool} {aD : Option Addr} {adn adc : Nat} {aeh : Bool} {ax1 ax2 : Int} {aL : Option Addr} {aln alc : Nat} (w : World) (c0 : decide (akd < 1) = true) : Calls Try.prog 17 #[.agg #[.int .u8 akd, .int .i64 afr, .int .i64 att, .int .i64 aep, .int .i64 anu, .int .i64 aab, .bool ag0, .slice aX0 an0 ac0, .int .i64 ae0, .bool ag1, .slice aX1 an1 ac1, .int .i64 ae1, .bool ag2, .slice aX2 an2 ac2, .int .i64 ae2, .bool ag3, .slice aX3 an3 ac3, .int .i64 ae3, .bool awa, .slice aD adn adc, .bool aeh, .int .i64 ax1, .int .i64 ax2, .slice aL aln alc]] w fun en w' => en = .returned (.int .i64 100) ∧ Below w.heap.size w w' := by
  obtain ⟨V, hV⟩ : ∃ V, V = w.alloc (.cells #[.int .u8 akd, .int .i64 afr, .int .i64 att, .int .i64 aep, .int .i64 anu, .int .i64 aab, .bool ag0, .slice aX0 an0 ac0, .int .i64 ae0, .bool ag1, .slice aX1 an1 ac1, .int .i64 ae1, .bool ag2, .slice aX2 an2 ac2, .int .i64 ae2, .bool ag3, .slice aX3 an3 ac3, .int .i64 ae3, .bool awa, .slice aD adn adc, .bool aeh, .int .i64 ax1, .int .i64 ax2, .slice aL aln alc] 31) := ⟨_, rfl⟩
  have hB : Below w.heap.size w V := by rw [hV]; exact (Below.refl _ _).alloc (Nat.le_refl _) _
  have ka : Blk V w.heap.size 31 #[.int .u8 akd, .int .i64 afr, .int .i64 att, .int .i64 aep, .int .i64 anu, .int .i64 aab, .bool ag0, .slice aX0 an0 ac0, .int .i64 ae0, .bool ag1, .slice aX1 an1 ac1, .int .i64 ae1, .bool ag2, .slice aX2 an2 ac2, .int .i64 ae2, .bool ag3, .slice aX3 an3 ac3, .int .i64 ae3, .bool awa, .slice aD adn adc, .bool aeh, .int .i64 ax1, .int .i64 ax2, .slice aL aln alc] := by rw [hV]; exact Blk.new w _ _
  have a0 : V.cell? ⟨w.heap.size, 0, none⟩ = some (.int .u8 akd) := by rw [ka.cell]; rfl
  go_enter Try.func17, Try.ntmps17
  go_wp2_with fail
  rw [← hV]
  clear hV
  go_wp2
  go_ret
  exact ⟨rfl, hB⟩
set_option maxRecDepth 100000 in
set_option maxHeartbeats 16000000 in
theorem ckn1 {akd afr att aep anu aab : Int} {ag0 : Bool} {aX0 : Option Addr} {an0 ac0 : Nat} {ae0 : Int} {ag1 : Bool} {aX1 : Option Addr} {an1 ac1 : Nat} {ae1 : Int} {ag2 : Bool} {aX2 : Option Addr} {an2 ac2 : Nat} {ae2 : Int} {ag3 : Bool} {aX3 : Option Addr} {an3 ac3 : Nat} {ae3 : Int} {awa : Bool} {aD : Option Addr} {adn adc : Nat} {aeh : Bool} {ax1 ax2 : Int} {aL : Option Addr} {aln alc : Nat} (w : World) (c0 : decide (akd < 1) = false) (c1 : decide ((6 : Int) < akd) = true) : Calls Try.prog 17 #[.agg #[.int .u8 akd, .int .i64 afr, .int .i64 att, .int .i64 aep, .int .i64 anu, .int .i64 aab, .bool ag0, .slice aX0 an0 ac0, .int .i64 ae0, .bool ag1, .slice aX1 an1 ac1, .int .i64 ae1, .bool ag2, .slice aX2 an2 ac2, .int .i64 ae2, .bool ag3, .slice aX3 an3 ac3, .int .i64 ae3, .bool awa, .slice aD adn adc, .bool aeh, .int .i64 ax1, .int .i64 ax2, .slice aL aln alc]] w fun en w' => en = .returned (.int .i64 100) ∧ Below w.heap.size w w' := by
  obtain ⟨V, hV⟩ : ∃ V, V = w.alloc (.cells #[.int .u8 akd, .int .i64 afr, .int .i64 att, .int .i64 aep, .int .i64 anu, .int .i64 aab, .bool ag0, .slice aX0 an0 ac0, .int .i64 ae0, .bool ag1, .slice aX1 an1 ac1, .int .i64 ae1, .bool ag2, .slice aX2 an2 ac2, .int .i64 ae2, .bool ag3, .slice aX3 an3 ac3, .int .i64 ae3, .bool awa, .slice aD adn adc, .bool aeh, .int .i64 ax1, .int .i64 ax2, .slice aL aln alc] 31) := ⟨_, rfl⟩
  have hB : Below w.heap.size w V := by rw [hV]; exact (Below.refl _ _).alloc (Nat.le_refl _) _
  have ka : Blk V w.heap.size 31 #[.int .u8 akd, .int .i64 afr, .int .i64 att, .int .i64 aep, .int .i64 anu, .int .i64 aab, .bool ag0, .slice aX0 an0 ac0, .int .i64 ae0, .bool ag1, .slice aX1 an1 ac1, .int .i64 ae1, .bool ag2, .slice aX2 an2 ac2, .int .i64 ae2, .bool ag3, .slice aX3 an3 ac3, .int .i64 ae3, .bool awa, .slice aD adn adc, .bool aeh, .int .i64 ax1, .int .i64 ax2, .slice aL aln alc] := by rw [hV]; exact Blk.new w _ _
  have a0 : V.cell? ⟨w.heap.size, 0, none⟩ = some (.int .u8 akd) := by rw [ka.cell]; rfl
  go_enter Try.func17, Try.ntmps17
  go_wp2_with fail
  rw [← hV]
  clear hV
  go_wp2
  go_ret
  exact ⟨rfl, hB⟩
set_option maxRecDepth 100000 in
set_option maxHeartbeats 16000000 in
theorem ckn2 {akd afr att aep anu aab : Int} {ag0 : Bool} {aX0 : Option Addr} {an0 ac0 : Nat} {ae0 : Int} {ag1 : Bool} {aX1 : Option Addr} {an1 ac1 : Nat} {ae1 : Int} {ag2 : Bool} {aX2 : Option Addr} {an2 ac2 : Nat} {ae2 : Int} {ag3 : Bool} {aX3 : Option Addr} {an3 ac3 : Nat} {ae3 : Int} {awa : Bool} {aD : Option Addr} {adn adc : Nat} {aeh : Bool} {ax1 ax2 : Int} {aL : Option Addr} {aln alc : Nat} (w : World) (c0 : decide (akd < 1) = false) (c1 : decide ((6 : Int) < akd) = false) (hq : badN afr = true ∨ badN att = true) : Calls Try.prog 17 #[.agg #[.int .u8 akd, .int .i64 afr, .int .i64 att, .int .i64 aep, .int .i64 anu, .int .i64 aab, .bool ag0, .slice aX0 an0 ac0, .int .i64 ae0, .bool ag1, .slice aX1 an1 ac1, .int .i64 ae1, .bool ag2, .slice aX2 an2 ac2, .int .i64 ae2, .bool ag3, .slice aX3 an3 ac3, .int .i64 ae3, .bool awa, .slice aD adn adc, .bool aeh, .int .i64 ax1, .int .i64 ax2, .slice aL aln alc]] w fun en w' => en = .returned (.int .i64 100) ∧ Below w.heap.size w w' := by
  obtain ⟨V, hV⟩ : ∃ V, V = w.alloc (.cells #[.int .u8 akd, .int .i64 afr, .int .i64 att, .int .i64 aep, .int .i64 anu, .int .i64 aab, .bool ag0, .slice aX0 an0 ac0, .int .i64 ae0, .bool ag1, .slice aX1 an1 ac1, .int .i64 ae1, .bool ag2, .slice aX2 an2 ac2, .int .i64 ae2, .bool ag3, .slice aX3 an3 ac3, .int .i64 ae3, .bool awa, .slice aD adn adc, .bool aeh, .int .i64 ax1, .int .i64 ax2, .slice aL aln alc] 31) := ⟨_, rfl⟩
  have hB : Below w.heap.size w V := by rw [hV]; exact (Below.refl _ _).alloc (Nat.le_refl _) _
  have ka : Blk V w.heap.size 31 #[.int .u8 akd, .int .i64 afr, .int .i64 att, .int .i64 aep, .int .i64 anu, .int .i64 aab, .bool ag0, .slice aX0 an0 ac0, .int .i64 ae0, .bool ag1, .slice aX1 an1 ac1, .int .i64 ae1, .bool ag2, .slice aX2 an2 ac2, .int .i64 ae2, .bool ag3, .slice aX3 an3 ac3, .int .i64 ae3, .bool awa, .slice aD adn adc, .bool aeh, .int .i64 ax1, .int .i64 ax2, .slice aL aln alc] := by rw [hV]; exact Blk.new w _ _
  have a0 : V.cell? ⟨w.heap.size, 0, none⟩ = some (.int .u8 akd) := by rw [ka.cell]; rfl
  have a1 : V.cell? ⟨w.heap.size, 1, none⟩ = some (.int .i64 afr) := by rw [ka.cell]; rfl
  have a2 : V.cell? ⟨w.heap.size, 2, none⟩ = some (.int .i64 att) := by rw [ka.cell]; rfl
  obtain ⟨V2, hV2⟩ : ∃ V2, V2 = V.alloc (.cells #[.int .i64 afr, .int .i64 att] 3) := ⟨_, rfl⟩
  have kn : Blk V2 V.heap.size 3 #[.int .i64 afr, .int .i64 att] := by rw [hV2]; exact Blk.new V _ _
  have kb : Blk V2 w.heap.size 31 #[.int .u8 akd, .int .i64 afr, .int .i64 att, .int .i64 aep, .int .i64 anu, .int .i64 aab, .bool ag0, .slice aX0 an0 ac0, .int .i64 ae0, .bool ag1, .slice aX1 an1 ac1, .int .i64 ae1, .bool ag2, .slice aX2 an2 ac2, .int .i64 ae2, .bool ag3, .slice aX3 an3 ac3, .int .i64 ae3, .bool awa, .slice aD adn adc, .bool aeh, .int .i64 ax1, .int .i64 ax2, .slice aL aln alc] := by rw [hV2]; exact ka.alloc _
  have hB2 : Below w.heap.size w V2 := by rw [hV2]; exact hB.alloc hB.size _
  have hVs : V.heap.size = w.heap.size + 1 := by rw [hV]; simp
  rw [hVs] at kn
  clear hVs
  have hn := node_any (w.heap.size + 1) afr att V2 (by rw [kn.cell]; rfl) (by rw [kn.cell]; rfl)
  have hnb : (!(badN afr || badN att)) = false := by rcases hq with h | h <;> rw [h] <;> simp
  rw [hnb] at hn
  clear hq hnb kn
  go_enter Try.func17, Try.ntmps17
  go_wp2_with fail
  rw [← hV]
  clear hV
  go_wp2_with fail
  rw [← hV2]
  clear hV2
  refine hn.mono ?_
  rintro en w2 ⟨rfl, rfl⟩
  clear a0 a1 a2 hn
  go_wp2
  go_ret
  exact ⟨rfl, hB2⟩
set_option maxRecDepth 100000 in
set_option maxHeartbeats 16000000 in
theorem ckn3 {akd afr att aep anu aab : Int} {ag0 : Bool} {aX0 : Option Addr} {an0 ac0 : Nat} {ae0 : Int} {ag1 : Bool} {aX1 : Option Addr} {an1 ac1 : Nat} {ae1 : Int} {ag2 : Bool} {aX2 : Option Addr} {an2 ac2 : Nat} {ae2 : Int} {ag3 : Bool} {aX3 : Option Addr} {an3 ac3 : Nat} {ae3 : Int} {awa : Bool} {aD : Option Addr} {adn adc : Nat} {aeh : Bool} {ax1 ax2 : Int} {aL : Option Addr} {aln alc : Nat} (w : World) (c0 : decide (akd < 1) = false) (c1 : decide ((6 : Int) < akd) = false) (hq : badN afr = false ∧ badN att = false) (c3 : decide (aep < 0) = true) : Calls Try.prog 17 #[.agg #[.int .u8 akd, .int .i64 afr, .int .i64 att, .int .i64 aep, .int .i64 anu, .int .i64 aab, .bool ag0, .slice aX0 an0 ac0, .int .i64 ae0, .bool ag1, .slice aX1 an1 ac1, .int .i64 ae1, .bool ag2, .slice aX2 an2 ac2, .int .i64 ae2, .bool ag3, .slice aX3 an3 ac3, .int .i64 ae3, .bool awa, .slice aD adn adc, .bool aeh, .int .i64 ax1, .int .i64 ax2, .slice aL aln alc]] w fun en w' => en = .returned (.int .i64 100) ∧ Below w.heap.size w w' := by
  obtain ⟨V, hV⟩ : ∃ V, V = w.alloc (.cells #[.int .u8 akd, .int .i64 afr, .int .i64 att, .int .i64 aep, .int .i64 anu, .int .i64 aab, .bool ag0, .slice aX0 an0 ac0, .int .i64 ae0, .bool ag1, .slice aX1 an1 ac1, .int .i64 ae1, .bool ag2, .slice aX2 an2 ac2, .int .i64 ae2, .bool ag3, .slice aX3 an3 ac3, .int .i64 ae3, .bool awa, .slice aD adn adc, .bool aeh, .int .i64 ax1, .int .i64 ax2, .slice aL aln alc] 31) := ⟨_, rfl⟩
  have hB : Below w.heap.size w V := by rw [hV]; exact (Below.refl _ _).alloc (Nat.le_refl _) _
  have ka : Blk V w.heap.size 31 #[.int .u8 akd, .int .i64 afr, .int .i64 att, .int .i64 aep, .int .i64 anu, .int .i64 aab, .bool ag0, .slice aX0 an0 ac0, .int .i64 ae0, .bool ag1, .slice aX1 an1 ac1, .int .i64 ae1, .bool ag2, .slice aX2 an2 ac2, .int .i64 ae2, .bool ag3, .slice aX3 an3 ac3, .int .i64 ae3, .bool awa, .slice aD adn adc, .bool aeh, .int .i64 ax1, .int .i64 ax2, .slice aL aln alc] := by rw [hV]; exact Blk.new w _ _
  have a0 : V.cell? ⟨w.heap.size, 0, none⟩ = some (.int .u8 akd) := by rw [ka.cell]; rfl
  have a1 : V.cell? ⟨w.heap.size, 1, none⟩ = some (.int .i64 afr) := by rw [ka.cell]; rfl
  have a2 : V.cell? ⟨w.heap.size, 2, none⟩ = some (.int .i64 att) := by rw [ka.cell]; rfl
  obtain ⟨V2, hV2⟩ : ∃ V2, V2 = V.alloc (.cells #[.int .i64 afr, .int .i64 att] 3) := ⟨_, rfl⟩
  have kn : Blk V2 V.heap.size 3 #[.int .i64 afr, .int .i64 att] := by rw [hV2]; exact Blk.new V _ _
  have kb : Blk V2 w.heap.size 31 #[.int .u8 akd, .int .i64 afr, .int .i64 att, .int .i64 aep, .int .i64 anu, .int .i64 aab, .bool ag0, .slice aX0 an0 ac0, .int .i64 ae0, .bool ag1, .slice aX1 an1 ac1, .int .i64 ae1, .bool ag2, .slice aX2 an2 ac2, .int .i64 ae2, .bool ag3, .slice aX3 an3 ac3, .int .i64 ae3, .bool awa, .slice aD adn adc, .bool aeh, .int .i64 ax1, .int .i64 ax2, .slice aL aln alc] := by rw [hV2]; exact ka.alloc _
  have hB2 : Below w.heap.size w V2 := by rw [hV2]; exact hB.alloc hB.size _
  have hVs : V.heap.size = w.heap.size + 1 := by rw [hV]; simp
  rw [hVs] at kn
  clear hVs
  have hn := node_any (w.heap.size + 1) afr att V2 (by rw [kn.cell]; rfl) (by rw [kn.cell]; rfl)
  have hnb : (!(badN afr || badN att)) = true := by rw [hq.1, hq.2]; rfl
  rw [hnb] at hn
  clear hq hnb kn
  go_enter Try.func17, Try.ntmps17
  go_wp2_with fail
  rw [← hV]
  clear hV
  go_wp2_with fail
  rw [← hV2]
  clear hV2
  refine hn.mono ?_
  rintro en w2 ⟨rfl, rfl⟩
  clear a0 a1 a2 hn
  have a3 : V2.cell? ⟨w.heap.size, 3, none⟩ = some (.int .i64 aep) := by rw [kb.cell]; rfl
  go_wp2
  go_ret
  exact ⟨rfl, hB2⟩
set_option maxRecDepth 100000 in
set_option maxHeartbeats 16000000 in
theorem ckn4 {akd afr att aep anu aab : Int} {ag0 : Bool} {aX0 : Option Addr} {an0 ac0 : Nat} {ae0 : Int} {ag1 : Bool} {aX1 : Option Addr} {an1 ac1 : Nat} {ae1 : Int} {ag2 : Bool} {aX2 : Option Addr} {an2 ac2 : Nat} {ae2 : Int} {ag3 : Bool} {aX3 : Option Addr} {an3 ac3 : Nat} {ae3 : Int} {awa : Bool} {aD : Option Addr} {adn adc : Nat} {aeh : Bool} {ax1 ax2 : Int} {aL : Option Addr} {aln alc : Nat} (w : World) (c0 : decide (akd < 1) = false) (c1 : decide ((6 : Int) < akd) = false) (hq : badN afr = false ∧ badN att = false) (c3 : decide (aep < 0) = false) (c4 : decide ((65535 : Int) < aep) = true) : Calls Try.prog 17 #[.agg #[.int .u8 akd, .int .i64 afr, .int .i64 att, .int .i64 aep, .int .i64 anu, .int .i64 aab, .bool ag0, .slice aX0 an0 ac0, .int .i64 ae0, .bool ag1, .slice aX1 an1 ac1, .int .i64 ae1, .bool ag2, .slice aX2 an2 ac2, .int .i64 ae2, .bool ag3, .slice aX3 an3 ac3, .int .i64 ae3, .bool awa, .slice aD adn adc, .bool aeh, .int .i64 ax1, .int .i64 ax2, .slice aL aln alc]] w fun en w' => en = .returned (.int .i64 100) ∧ Below w.heap.size w w' := by
  obtain ⟨V, hV⟩ : ∃ V, V = w.alloc (.cells #[.int .u8 akd, .int .i64 afr, .int .i64 att, .int .i64 aep, .int .i64 anu, .int .i64 aab, .bool ag0, .slice aX0 an0 ac0, .int .i64 ae0, .bool ag1, .slice aX1 an1 ac1, .int .i64 ae1, .bool ag2, .slice aX2 an2 ac2, .int .i64 ae2, .bool ag3, .slice aX3 an3 ac3, .int .i64 ae3, .bool awa, .slice aD adn adc, .bool aeh, .int .i64 ax1, .int .i64 ax2, .slice aL aln alc] 31) := ⟨_, rfl⟩
  have hB : Below w.heap.size w V := by rw [hV]; exact (Below.refl _ _).alloc (Nat.le_refl _) _
  have ka : Blk V w.heap.size 31 #[.int .u8 akd, .int .i64 afr, .int .i64 att, .int .i64 aep, .int .i64 anu, .int .i64 aab, .bool ag0, .slice aX0 an0 ac0, .int .i64 ae0, .bool ag1, .slice aX1 an1 ac1, .int .i64 ae1, .bool ag2, .slice aX2 an2 ac2, .int .i64 ae2, .bool ag3, .slice aX3 an3 ac3, .int .i64 ae3, .bool awa, .slice aD adn adc, .bool aeh, .int .i64 ax1, .int .i64 ax2, .slice aL aln alc] := by rw [hV]; exact Blk.new w _ _
  have a0 : V.cell? ⟨w.heap.size, 0, none⟩ = some (.int .u8 akd) := by rw [ka.cell]; rfl
  have a1 : V.cell? ⟨w.heap.size, 1, none⟩ = some (.int .i64 afr) := by rw [ka.cell]; rfl
  have a2 : V.cell? ⟨w.heap.size, 2, none⟩ = some (.int .i64 att) := by rw [ka.cell]; rfl
  obtain ⟨V2, hV2⟩ : ∃ V2, V2 = V.alloc (.cells #[.int .i64 afr, .int .i64 att] 3) := ⟨_, rfl⟩
  have kn : Blk V2 V.heap.size 3 #[.int .i64 afr, .int .i64 att] := by rw [hV2]; exact Blk.new V _ _
  have kb : Blk V2 w.heap.size 31 #[.int .u8 akd, .int .i64 afr, .int .i64 att, .int .i64 aep, .int .i64 anu, .int .i64 aab, .bool ag0, .slice aX0 an0 ac0, .int .i64 ae0, .bool ag1, .slice aX1 an1 ac1, .int .i64 ae1, .bool ag2, .slice aX2 an2 ac2, .int .i64 ae2, .bool ag3, .slice aX3 an3 ac3, .int .i64 ae3, .bool awa, .slice aD adn adc, .bool aeh, .int .i64 ax1, .int .i64 ax2, .slice aL aln alc] := by rw [hV2]; exact ka.alloc _
  have hB2 : Below w.heap.size w V2 := by rw [hV2]; exact hB.alloc hB.size _
  have hVs : V.heap.size = w.heap.size + 1 := by rw [hV]; simp
  rw [hVs] at kn
  clear hVs
  have hn := node_any (w.heap.size + 1) afr att V2 (by rw [kn.cell]; rfl) (by rw [kn.cell]; rfl)
  have hnb : (!(badN afr || badN att)) = true := by rw [hq.1, hq.2]; rfl
  rw [hnb] at hn
  clear hq hnb kn
  go_enter Try.func17, Try.ntmps17
  go_wp2_with fail
  rw [← hV]
  clear hV
  go_wp2_with fail
  rw [← hV2]
  clear hV2
  refine hn.mono ?_
  rintro en w2 ⟨rfl, rfl⟩
  clear a0 a1 a2 hn
  have a3 : V2.cell? ⟨w.heap.size, 3, none⟩ = some (.int .i64 aep) := by rw [kb.cell]; rfl
  go_wp2
  go_ret
  exact ⟨rfl, hB2⟩
set_option maxRecDepth 100000 in
set_option maxHeartbeats 16000000 in
theorem ckn5 {akd afr att aep anu aab : Int} {ag0 : Bool} {aX0 : Option Addr} {an0 ac0 : Nat} {ae0 : Int} {ag1 : Bool} {aX1 : Option Addr} {an1 ac1 : Nat} {ae1 : Int} {ag2 : Bool} {aX2 : Option Addr} {an2 ac2 : Nat} {ae2 : Int} {ag3 : Bool} {aX3 : Option Addr} {an3 ac3 : Nat} {ae3 : Int} {awa : Bool} {aD : Option Addr} {adn adc : Nat} {aeh : Bool} {ax1 ax2 : Int} {aL : Option Addr} {aln alc : Nat} (w : World) (c0 : decide (akd < 1) = false) (c1 : decide ((6 : Int) < akd) = false) (hq : badN afr = false ∧ badN att = false) (c3 : decide (aep < 0) = false) (c4 : decide ((65535 : Int) < aep) = false) (c5 : decide (anu < 0) = true) : Calls Try.prog 17 #[.agg #[.int .u8 akd, .int .i64 afr, .int .i64 att, .int .i64 aep, .int .i64 anu, .int .i64 aab, .bool ag0, .slice aX0 an0 ac0, .int .i64 ae0, .bool ag1, .slice aX1 an1 ac1, .int .i64 ae1, .bool ag2, .slice aX2 an2 ac2, .int .i64 ae2, .bool ag3, .slice aX3 an3 ac3, .int .i64 ae3, .bool awa, .slice aD adn adc, .bool aeh, .int .i64 ax1, .int .i64 ax2, .slice aL aln alc]] w fun en w' => en = .returned (.int .i64 100) ∧ Below w.heap.size w w' := by
  obtain ⟨V, hV⟩ : ∃ V, V = w.alloc (.cells #[.int .u8 akd, .int .i64 afr, .int .i64 att, .int .i64 aep, .int .i64 anu, .int .i64 aab, .bool ag0, .slice aX0 an0 ac0, .int .i64 ae0, .bool ag1, .slice aX1 an1 ac1, .int .i64 ae1, .bool ag2, .slice aX2 an2 ac2, .int .i64 ae2, .bool ag3, .slice aX3 an3 ac3, .int .i64 ae3, .bool awa, .slice aD adn adc, .bool aeh, .int .i64 ax1, .int .i64 ax2, .slice aL aln alc] 31) := ⟨_, rfl⟩
  have hB : Below w.heap.size w V := by rw [hV]; exact (Below.refl _ _).alloc (Nat.le_refl _) _
  have ka : Blk V w.heap.size 31 #[.int .u8 akd, .int .i64 afr, .int .i64 att, .int .i64 aep, .int .i64 anu, .int .i64 aab, .bool ag0, .slice aX0 an0 ac0, .int .i64 ae0, .bool ag1, .slice aX1 an1 ac1, .int .i64 ae1, .bool ag2, .slice aX2 an2 ac2, .int .i64 ae2, .bool ag3, .slice aX3 an3 ac3, .int .i64 ae3, .bool awa, .slice aD adn adc, .bool aeh, .int .i64 ax1, .int .i64 ax2, .slice aL aln alc] := by rw [hV]; exact Blk.new w _ _
  have a0 : V.cell? ⟨w.heap.size, 0, none⟩ = some (.int .u8 akd) := by rw [ka.cell]; rfl
  have a1 : V.cell? ⟨w.heap.size, 1, none⟩ = some (.int .i64 afr) := by rw [ka.cell]; rfl
  have a2 : V.cell? ⟨w.heap.size, 2, none⟩ = some (.int .i64 att) := by rw [ka.cell]; rfl
  obtain ⟨V2, hV2⟩ : ∃ V2, V2 = V.alloc (.cells #[.int .i64 afr, .int .i64 att] 3) := ⟨_, rfl⟩
  have kn : Blk V2 V.heap.size 3 #[.int .i64 afr, .int .i64 att] := by rw [hV2]; exact Blk.new V _ _
  have kb : Blk V2 w.heap.size 31 #[.int .u8 akd, .int .i64 afr, .int .i64 att, .int .i64 aep, .int .i64 anu, .int .i64 aab, .bool ag0, .slice aX0 an0 ac0, .int .i64 ae0, .bool ag1, .slice aX1 an1 ac1, .int .i64 ae1, .bool ag2, .slice aX2 an2 ac2, .int .i64 ae2, .bool ag3, .slice aX3 an3 ac3, .int .i64 ae3, .bool awa, .slice aD adn adc, .bool aeh, .int .i64 ax1, .int .i64 ax2, .slice aL aln alc] := by rw [hV2]; exact ka.alloc _
  have hB2 : Below w.heap.size w V2 := by rw [hV2]; exact hB.alloc hB.size _
  have hVs : V.heap.size = w.heap.size + 1 := by rw [hV]; simp
  rw [hVs] at kn
  clear hVs
  have hn := node_any (w.heap.size + 1) afr att V2 (by rw [kn.cell]; rfl) (by rw [kn.cell]; rfl)
  have hnb : (!(badN afr || badN att)) = true := by rw [hq.1, hq.2]; rfl
  rw [hnb] at hn
  clear hq hnb kn
  go_enter Try.func17, Try.ntmps17
  go_wp2_with fail
  rw [← hV]
  clear hV
  go_wp2_with fail
  rw [← hV2]
  clear hV2
  refine hn.mono ?_
  rintro en w2 ⟨rfl, rfl⟩
  clear a0 a1 a2 hn
  have a3 : V2.cell? ⟨w.heap.size, 3, none⟩ = some (.int .i64 aep) := by rw [kb.cell]; rfl
  have a4 : V2.cell? ⟨w.heap.size, 4, none⟩ = some (.int .i64 anu) := by rw [kb.cell]; rfl
  go_wp2
  go_ret
  exact ⟨rfl, hB2⟩
set_option maxRecDepth 100000 in
set_option maxHeartbeats 16000000 in
theorem ckn6 {akd afr att aep anu aab : Int} {ag0 : Bool} {aX0 : Option Addr} {an0 ac0 : Nat} {ae0 : Int} {ag1 : Bool} {aX1 : Option Addr} {an1 ac1 : Nat} {ae1 : Int} {ag2 : Bool} {aX2 : Option Addr} {an2 ac2 : Nat} {ae2 : Int} {ag3 : Bool} {aX3 : Option Addr} {an3 ac3 : Nat} {ae3 : Int} {awa : Bool} {aD : Option Addr} {adn adc : Nat} {aeh : Bool} {ax1 ax2 : Int} {aL : Option Addr} {aln alc : Nat} (w : World) (c0 : decide (akd < 1) = false) (c1 : decide ((6 : Int) < akd) = false) (hq : badN afr = false ∧ badN att = false) (c3 : decide (aep < 0) = false) (c4 : decide ((65535 : Int) < aep) = false) (c5 : decide (anu < 0) = false) (c6 : decide ((1048575 : Int) < anu) = true) : Calls Try.prog 17 #[.agg #[.int .u8 akd, .int .i64 afr, .int .i64 att, .int .i64 aep, .int .i64 anu, .int .i64 aab, .bool ag0, .slice aX0 an0 ac0, .int .i64 ae0, .bool ag1, .slice aX1 an1 ac1, .int .i64 ae1, .bool ag2, .slice aX2 an2 ac2, .int .i64 ae2, .bool ag3, .slice aX3 an3 ac3, .int .i64 ae3, .bool awa, .slice aD adn adc, .bool aeh, .int .i64 ax1, .int .i64 ax2, .slice aL aln alc]] w fun en w' => en = .returned (.int .i64 100) ∧ Below w.heap.size w w' := by
  obtain ⟨V, hV⟩ : ∃ V, V = w.alloc (.cells #[.int .u8 akd, .int .i64 afr, .int .i64 att, .int .i64 aep, .int .i64 anu, .int .i64 aab, .bool ag0, .slice aX0 an0 ac0, .int .i64 ae0, .bool ag1, .slice aX1 an1 ac1, .int .i64 ae1, .bool ag2, .slice aX2 an2 ac2, .int .i64 ae2, .bool ag3, .slice aX3 an3 ac3, .int .i64 ae3, .bool awa, .slice aD adn adc, .bool aeh, .int .i64 ax1, .int .i64 ax2, .slice aL aln alc] 31) := ⟨_, rfl⟩
  have hB : Below w.heap.size w V := by rw [hV]; exact (Below.refl _ _).alloc (Nat.le_refl _) _
  have ka : Blk V w.heap.size 31 #[.int .u8 akd, .int .i64 afr, .int .i64 att, .int .i64 aep, .int .i64 anu, .int .i64 aab, .bool ag0, .slice aX0 an0 ac0, .int .i64 ae0, .bool ag1, .slice aX1 an1 ac1, .int .i64 ae1, .bool ag2, .slice aX2 an2 ac2, .int .i64 ae2, .bool ag3, .slice aX3 an3 ac3, .int .i64 ae3, .bool awa, .slice aD adn adc, .bool aeh, .int .i64 ax1, .int .i64 ax2, .slice aL aln alc] := by rw [hV]; exact Blk.new w _ _
  have a0 : V.cell? ⟨w.heap.size, 0, none⟩ = some (.int .u8 akd) := by rw [ka.cell]; rfl
  have a1 : V.cell? ⟨w.heap.size, 1, none⟩ = some (.int .i64 afr) := by rw [ka.cell]; rfl
  have a2 : V.cell? ⟨w.heap.size, 2, none⟩ = some (.int .i64 att) := by rw [ka.cell]; rfl
  obtain ⟨V2, hV2⟩ : ∃ V2, V2 = V.alloc (.cells #[.int .i64 afr, .int .i64 att] 3) := ⟨_, rfl⟩
  have kn : Blk V2 V.heap.size 3 #[.int .i64 afr, .int .i64 att] := by rw [hV2]; exact Blk.new V _ _
  have kb : Blk V2 w.heap.size 31 #[.int .u8 akd, .int .i64 afr, .int .i64 att, .int .i64 aep, .int .i64 anu, .int .i64 aab, .bool ag0, .slice aX0 an0 ac0, .int .i64 ae0, .bool ag1, .slice aX1 an1 ac1, .int .i64 ae1, .bool ag2, .slice aX2 an2 ac2, .int .i64 ae2, .bool ag3, .slice aX3 an3 ac3, .int .i64 ae3, .bool awa, .slice aD adn adc, .bool aeh, .int .i64 ax1, .int .i64 ax2, .slice aL aln alc] := by rw [hV2]; exact ka.alloc _
  have hB2 : Below w.heap.size w V2 := by rw [hV2]; exact hB.alloc hB.size _
  have hVs : V.heap.size = w.heap.size + 1 := by rw [hV]; simp
  rw [hVs] at kn
  clear hVs
  have hn := node_any (w.heap.size + 1) afr att V2 (by rw [kn.cell]; rfl) (by rw [kn.cell]; rfl)
  have hnb : (!(badN afr || badN att)) = true := by rw [hq.1, hq.2]; rfl
  rw [hnb] at hn
  clear hq hnb kn
  go_enter Try.func17, Try.ntmps17
  go_wp2_with fail
  rw [← hV]
  clear hV
  go_wp2_with fail
  rw [← hV2]
  clear hV2
  refine hn.mono ?_
  rintro en w2 ⟨rfl, rfl⟩
  clear a0 a1 a2 hn
  have a3 : V2.cell? ⟨w.heap.size, 3, none⟩ = some (.int .i64 aep) := by rw [kb.cell]; rfl
  have a4 : V2.cell? ⟨w.heap.size, 4, none⟩ = some (.int .i64 anu) := by rw [kb.cell]; rfl
  go_wp2
  go_ret
  exact ⟨rfl, hB2⟩
set_option maxRecDepth 100000 in
set_option maxHeartbeats 16000000 in
theorem ckn7 {akd afr att aep anu aab : Int} {ag0 : Bool} {aX0 : Option Addr} {an0 ac0 : Nat} {ae0 : Int} {ag1 : Bool} {aX1 : Option Addr} {an1 ac1 : Nat} {ae1 : Int} {ag2 : Bool} {aX2 : Option Addr} {an2 ac2 : Nat} {ae2 : Int} {ag3 : Bool} {aX3 : Option Addr} {an3 ac3 : Nat} {ae3 : Int} {awa : Bool} {aD : Option Addr} {adn adc : Nat} {aeh : Bool} {ax1 ax2 : Int} {aL : Option Addr} {aln alc : Nat} (w : World) (c0 : decide (akd < 1) = false) (c1 : decide ((6 : Int) < akd) = false) (hq : badN afr = false ∧ badN att = false) (c3 : decide (aep < 0) = false) (c4 : decide ((65535 : Int) < aep) = false) (c5 : decide (anu < 0) = false) (c6 : decide ((1048575 : Int) < anu) = false) (c7 : decide (aab < 0) = true) : Calls Try.prog 17 #[.agg #[.int .u8 akd, .int .i64 afr, .int .i64 att, .int .i64 aep, .int .i64 anu, .int .i64 aab, .bool ag0, .slice aX0 an0 ac0, .int .i64 ae0, .bool ag1, .slice aX1 an1 ac1, .int .i64 ae1, .bool ag2, .slice aX2 an2 ac2, .int .i64 ae2, .bool ag3, .slice aX3 an3 ac3, .int .i64 ae3, .bool awa, .slice aD adn adc, .bool aeh, .int .i64 ax1, .int .i64 ax2, .slice aL aln alc]] w fun en w' => en = .returned (.int .i64 100) ∧ Below w.heap.size w w' := by
  obtain ⟨V, hV⟩ : ∃ V, V = w.alloc (.cells #[.int .u8 akd, .int .i64 afr, .int .i64 att, .int .i64 aep, .int .i64 anu, .int .i64 aab, .bool ag0, .slice aX0 an0 ac0, .int .i64 ae0, .bool ag1, .slice aX1 an1 ac1, .int .i64 ae1, .bool ag2, .slice aX2 an2 ac2, .int .i64 ae2, .bool ag3, .slice aX3 an3 ac3, .int .i64 ae3, .bool awa, .slice aD adn adc, .bool aeh, .int .i64 ax1, .int .i64 ax2, .slice aL aln alc] 31) := ⟨_, rfl⟩
  have hB : Below w.heap.size w V := by rw [hV]; exact (Below.refl _ _).alloc (Nat.le_refl _) _
  have ka : Blk V w.heap.size 31 #[.int .u8 akd, .int .i64 afr, .int .i64 att, .int .i64 aep, .int .i64 anu, .int .i64 aab, .bool ag0, .slice aX0 an0 ac0, .int .i64 ae0, .bool ag1, .slice aX1 an1 ac1, .int .i64 ae1, .bool ag2, .slice aX2 an2 ac2, .int .i64 ae2, .bool ag3, .slice aX3 an3 ac3, .int .i64 ae3, .bool awa, .slice aD adn adc, .bool aeh, .int .i64 ax1, .int .i64 ax2, .slice aL aln alc] := by rw [hV]; exact Blk.new w _ _
  have a0 : V.cell? ⟨w.heap.size, 0, none⟩ = some (.int .u8 akd) := by rw [ka.cell]; rfl
  have a1 : V.cell? ⟨w.heap.size, 1, none⟩ = some (.int .i64 afr) := by rw [ka.cell]; rfl
  have a2 : V.cell? ⟨w.heap.size, 2, none⟩ = some (.int .i64 att) := by rw [ka.cell]; rfl
  obtain ⟨V2, hV2⟩ : ∃ V2, V2 = V.alloc (.cells #[.int .i64 afr, .int .i64 att] 3) := ⟨_, rfl⟩
  have kn : Blk V2 V.heap.size 3 #[.int .i64 afr, .int .i64 att] := by rw [hV2]; exact Blk.new V _ _
  have kb : Blk V2 w.heap.size 31 #[.int .u8 akd, .int .i64 afr, .int .i64 att, .int .i64 aep, .int .i64 anu, .int .i64 aab, .bool ag0, .slice aX0 an0 ac0, .int .i64 ae0, .bool ag1, .slice aX1 an1 ac1, .int .i64 ae1, .bool ag2, .slice aX2 an2 ac2, .int .i64 ae2, .bool ag3, .slice aX3 an3 ac3, .int .i64 ae3, .bool awa, .slice aD adn adc, .bool aeh, .int .i64 ax1, .int .i64 ax2, .slice aL aln alc] := by rw [hV2]; exact ka.alloc _
  have hB2 : Below w.heap.size w V2 := by rw [hV2]; exact hB.alloc hB.size _
  have hVs : V.heap.size = w.heap.size + 1 := by rw [hV]; simp
  rw [hVs] at kn
  clear hVs
  have hn := node_any (w.heap.size + 1) afr att V2 (by rw [kn.cell]; rfl) (by rw [kn.cell]; rfl)
  have hnb : (!(badN afr || badN att)) = true := by rw [hq.1, hq.2]; rfl
  rw [hnb] at hn
  clear hq hnb kn
  go_enter Try.func17, Try.ntmps17
  go_wp2_with fail
  rw [← hV]
  clear hV
  go_wp2_with fail
  rw [← hV2]
  clear hV2
  refine hn.mono ?_
  rintro en w2 ⟨rfl, rfl⟩
  clear a0 a1 a2 hn
  have a3 : V2.cell? ⟨w.heap.size, 3, none⟩ = some (.int .i64 aep) := by rw [kb.cell]; rfl
  have a4 : V2.cell? ⟨w.heap.size, 4, none⟩ = some (.int .i64 anu) := by rw [kb.cell]; rfl
  have a5 : V2.cell? ⟨w.heap.size, 5, none⟩ = some (.int .i64 aab) := by rw [kb.cell]; rfl
  go_wp2
  go_ret
  exact ⟨rfl, hB2⟩
set_option maxRecDepth 100000 in
set_option maxHeartbeats 16000000 in
theorem ckn8 {akd afr att aep anu aab : Int} {ag0 : Bool} {aX0 : Option Addr} {an0 ac0 : Nat} {ae0 : Int} {ag1 : Bool} {aX1 : Option Addr} {an1 ac1 : Nat} {ae1 : Int} {ag2 : Bool} {aX2 : Option Addr} {an2 ac2 : Nat} {ae2 : Int} {ag3 : Bool} {aX3 : Option Addr} {an3 ac3 : Nat} {ae3 : Int} {awa : Bool} {aD : Option Addr} {adn adc : Nat} {aeh : Bool} {ax1 ax2 : Int} {aL : Option Addr} {aln alc : Nat} (w : World) (c0 : decide (akd < 1) = false) (c1 : decide ((6 : Int) < akd) = false) (hq : badN afr = false ∧ badN att = false) (c3 : decide (aep < 0) = false) (c4 : decide ((65535 : Int) < aep) = false) (c5 : decide (anu < 0) = false) (c6 : decide ((1048575 : Int) < anu) = false) (c7 : decide (aab < 0) = false) (c8 : decide ((1048575 : Int) < aab) = true) : Calls Try.prog 17 #[.agg #[.int .u8 akd, .int .i64 afr, .int .i64 att, .int .i64 aep, .int .i64 anu, .int .i64 aab, .bool ag0, .slice aX0 an0 ac0, .int .i64 ae0, .bool ag1, .slice aX1 an1 ac1, .int .i64 ae1, .bool ag2, .slice aX2 an2 ac2, .int .i64 ae2, .bool ag3, .slice aX3 an3 ac3, .int .i64 ae3, .bool awa, .slice aD adn adc, .bool aeh, .int .i64 ax1, .int .i64 ax2, .slice aL aln alc]] w fun en w' => en = .returned (.int .i64 100) ∧ Below w.heap.size w w' := by
  obtain ⟨V, hV⟩ : ∃ V, V = w.alloc (.cells #[.int .u8 akd, .int .i64 afr, .int .i64 att, .int .i64 aep, .int .i64 anu, .int .i64 aab, .bool ag0, .slice aX0 an0 ac0, .int .i64 ae0, .bool ag1, .slice aX1 an1 ac1, .int .i64 ae1, .bool ag2, .slice aX2 an2 ac2, .int .i64 ae2, .bool ag3, .slice aX3 an3 ac3, .int .i64 ae3, .bool awa, .slice aD adn adc, .bool aeh, .int .i64 ax1, .int .i64 ax2, .slice aL aln alc] 31) := ⟨_, rfl⟩
  have hB : Below w.heap.size w V := by rw [hV]; exact (Below.refl _ _).alloc (Nat.le_refl _) _
  have ka : Blk V w.heap.size 31 #[.int .u8 akd, .int .i64 afr, .int .i64 att, .int .i64 aep, .int .i64 anu, .int .i64 aab, .bool ag0, .slice aX0 an0 ac0, .int .i64 ae0, .bool ag1, .slice aX1 an1 ac1, .int .i64 ae1, .bool ag2, .slice aX2 an2 ac2, .int .i64 ae2, .bool ag3, .slice aX3 an3 ac3, .int .i64 ae3, .bool awa, .slice aD adn adc, .bool aeh, .int .i64 ax1, .int .i64 ax2, .slice aL aln alc] := by rw [hV]; exact Blk.new w _ _
  have a0 : V.cell? ⟨w.heap.size, 0, none⟩ = some (.int .u8 akd) := by rw [ka.cell]; rfl
  have a1 : V.cell? ⟨w.heap.size, 1, none⟩ = some (.int .i64 afr) := by rw [ka.cell]; rfl
  have a2 : V.cell? ⟨w.heap.size, 2, none⟩ = some (.int .i64 att) := by rw [ka.cell]; rfl
  obtain ⟨V2, hV2⟩ : ∃ V2, V2 = V.alloc (.cells #[.int .i64 afr, .int .i64 att] 3) := ⟨_, rfl⟩
  have kn : Blk V2 V.heap.size 3 #[.int .i64 afr, .int .i64 att] := by rw [hV2]; exact Blk.new V _ _
  have kb : Blk V2 w.heap.size 31 #[.int .u8 akd, .int .i64 afr, .int .i64 att, .int .i64 aep, .int .i64 anu, .int .i64 aab, .bool ag0, .slice aX0 an0 ac0, .int .i64 ae0, .bool ag1, .slice aX1 an1 ac1, .int .i64 ae1, .bool ag2, .slice aX2 an2 ac2, .int .i64 ae2, .bool ag3, .slice aX3 an3 ac3, .int .i64 ae3, .bool awa, .slice aD adn adc, .bool aeh, .int .i64 ax1, .int .i64 ax2, .slice aL aln alc] := by rw [hV2]; exact ka.alloc _
  have hB2 : Below w.heap.size w V2 := by rw [hV2]; exact hB.alloc hB.size _
  have hVs : V.heap.size = w.heap.size + 1 := by rw [hV]; simp
  rw [hVs] at kn
  clear hVs
  have hn := node_any (w.heap.size + 1) afr att V2 (by rw [kn.cell]; rfl) (by rw [kn.cell]; rfl)
  have hnb : (!(badN afr || badN att)) = true := by rw [hq.1, hq.2]; rfl
  rw [hnb] at hn
  clear hq hnb kn
  go_enter Try.func17, Try.ntmps17
  go_wp2_with fail
  rw [← hV]
  clear hV
  go_wp2_with fail
  rw [← hV2]
  clear hV2
  refine hn.mono ?_
  rintro en w2 ⟨rfl, rfl⟩
  clear a0 a1 a2 hn
  have a3 : V2.cell? ⟨w.heap.size, 3, none⟩ = some (.int .i64 aep) := by rw [kb.cell]; rfl
  have a4 : V2.cell? ⟨w.heap.size, 4, none⟩ = some (.int .i64 anu) := by rw [kb.cell]; rfl
  have a5 : V2.cell? ⟨w.heap.size, 5, none⟩ = some (.int .i64 aab) := by rw [kb.cell]; rfl
  go_wp2
  go_ret
  exact ⟨rfl, hB2⟩
end Go.Proofs.Ytjmhefkmpfkpbaa
