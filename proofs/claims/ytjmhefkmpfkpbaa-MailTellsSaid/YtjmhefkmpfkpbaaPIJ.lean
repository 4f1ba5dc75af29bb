/- Mail: mail.Check: numbers that may not be | Mail: mail.Check: the rest | Mail: mail.Check -/
import Derived.Deep.Cut
import Derived.Test.YtjmhefkmpfkpbaaZLL
import Derived.Test.YtjmhefkmpfkpbaaKA
import Derived.Test.YtjmhefkmpfkpbaaPH
namespace Go.Proofs.Ytjmhefkmpfkpbaa
open Go.ChangeShapes Go.WideShapes Go.ChangeAt Go.RowKit
set_option linter.unusedSimpArgs false
set_option linter.unusedVariables false
abbrev pi0 (akd afr att aep anu aab : Int) (ag0 : Bool) (aX0 : Option Addr) (an0 ac0 : Nat) (ae0 : Int) (ag1 : Bool) (aX1 : Option Addr) (an1 ac1 : Nat) (ae1 : Int) (ag2 : Bool) (aX2 : Option Addr) (an2 ac2 : Nat) (ae2 : Int) (ag3 : Bool) (aX3 : Option Addr) (an3 ac3 : Nat) (ae3 : Int) (awa : Bool) (aD : Option Addr) (adn adc : Nat) (aeh : Bool) (ax1 ax2 : Int) (aL : Option Addr) (aln alc : Nat) : Array Value := #[.int .u8 akd, .int .i64 afr, .int .i64 att, .int .i64 aep, .int .i64 anu, .int .i64 aab, .bool ag0, .slice aX0 an0 ac0, .int .i64 ae0, .bool ag1, .slice aX1 an1 ac1, .int .i64 ae1, .bool ag2, .slice aX2 an2 ac2, .int .i64 ae2, .bool ag3, .slice aX3 an3 ac3, .int .i64 ae3, .bool awa, .slice aD adn adc, .bool aeh, .int .i64 ax1, .int .i64 ax2, .slice aL aln alc]
set_option maxRecDepth 100000 in
set_option maxHeartbeats 16000000 in
theorem ckn0 {akd afr att aep anu aab : Int} {ag0 : Bool} {aX0 : Option Addr} {an0 ac0 : Nat} {ae0 : Int} {ag1 : Bool} {aX1 : Option Addr} {an1 ac1 : Nat} {ae1 : Int} {ag2 : Bool} {aX2 : Option Addr} {an2 ac2 : Nat} {ae2 : Int} {ag3 : Bool} {aX3 : Option Addr} {an3 ac3 : Nat} {ae3 : Int} {awa : Bool} {aD : Option Addr} {adn adc : Nat} {aeh : Bool} {ax1 ax2 : Int} {aL : Option Addr} {aln alc : Nat} (w : World) (c0 : decide (akd < 1) = true) : Calls Try.prog 17 #[.agg (pi0 akd afr att aep anu aab ag0 aX0 an0 ac0 ae0 ag1 aX1 an1 ac1 ae1 ag2 aX2 an2 ac2 ae2 ag3 aX3 an3 ac3 ae3 awa aD adn adc aeh ax1 ax2 aL aln alc)] w fun en w' => en = .returned (.int .i64 100) ∧ Below w.heap.size w w' := by
  obtain ⟨V, hV⟩ : ∃ V, V = w.alloc (.cells (pi0 akd afr att aep anu aab ag0 aX0 an0 ac0 ae0 ag1 aX1 an1 ac1 ae1 ag2 aX2 an2 ac2 ae2 ag3 aX3 an3 ac3 ae3 awa aD adn adc aeh ax1 ax2 aL aln alc) 31) := ⟨_, rfl⟩
  have hB : Below w.heap.size w V := by rw [hV]; exact (Below.refl _ _).alloc (Nat.le_refl _) _
  have ka : Blk V w.heap.size 31 (pi0 akd afr att aep anu aab ag0 aX0 an0 ac0 ae0 ag1 aX1 an1 ac1 ae1 ag2 aX2 an2 ac2 ae2 ag3 aX3 an3 ac3 ae3 awa aD adn adc aeh ax1 ax2 aL aln alc) := by rw [hV]; exact Blk.new w _ _
  have a0 : V.cell? ⟨w.heap.size, 0, none⟩ = some (.int .u8 akd) := by rw [ka.cell]; rfl
  go_enter Try.func17, Try.ntmps17
  go_wp2_with fail
  rw [← hV]
  clear hV
  go_wp2
  go_ret
  exact ⟨rfl, hB⟩
set_option maxRecDepth 100000 in
set_option maxHeartbeats 16000000 in
theorem ckn1 {akd afr att aep anu aab : Int} {ag0 : Bool} {aX0 : Option Addr} {an0 ac0 : Nat} {ae0 : Int} {ag1 : Bool} {aX1 : Option Addr} {an1 ac1 : Nat} {ae1 : Int} {ag2 : Bool} {aX2 : Option Addr} {an2 ac2 : Nat} {ae2 : Int} {ag3 : Bool} {aX3 : Option Addr} {an3 ac3 : Nat} {ae3 : Int} {awa : Bool} {aD : Option Addr} {adn adc : Nat} {aeh : Bool} {ax1 ax2 : Int} {aL : Option Addr} {aln alc : Nat} (w : World) (c0 : decide (akd < 1) = false) (c1 : decide ((6 : Int) < akd) = true) : Calls Try.prog 17 #[.agg (pi0 akd afr att aep anu aab ag0 aX0 an0 ac0 ae0 ag1 aX1 an1 ac1 ae1 ag2 aX2 an2 ac2 ae2 ag3 aX3 an3 ac3 ae3 awa aD adn adc aeh ax1 ax2 aL aln alc)] w fun en w' => en = .returned (.int .i64 100) ∧ Below w.heap.size w w' := by
  obtain ⟨V, hV⟩ : ∃ V, V = w.alloc (.cells (pi0 akd afr att aep anu aab ag0 aX0 an0 ac0 ae0 ag1 aX1 an1 ac1 ae1 ag2 aX2 an2 ac2 ae2 ag3 aX3 an3 ac3 ae3 awa aD adn adc aeh ax1 ax2 aL aln alc) 31) := ⟨_, rfl⟩
  have hB : Below w.heap.size w V := by rw [hV]; exact (Below.refl _ _).alloc (Nat.le_refl _) _
  have ka : Blk V w.heap.size 31 (pi0 akd afr att aep anu aab ag0 aX0 an0 ac0 ae0 ag1 aX1 an1 ac1 ae1 ag2 aX2 an2 ac2 ae2 ag3 aX3 an3 ac3 ae3 awa aD adn adc aeh ax1 ax2 aL aln alc) := by rw [hV]; exact Blk.new w _ _
  have a0 : V.cell? ⟨w.heap.size, 0, none⟩ = some (.int .u8 akd) := by rw [ka.cell]; rfl
  go_enter Try.func17, Try.ntmps17
  go_wp2_with fail
  rw [← hV]
  clear hV
  go_wp2
  go_ret
  exact ⟨rfl, hB⟩
set_option maxRecDepth 100000 in
set_option maxHeartbeats 16000000 in
theorem ckn2 {akd afr att aep anu aab : Int} {ag0 : Bool} {aX0 : Option Addr} {an0 ac0 : Nat} {ae0 : Int} {ag1 : Bool} {aX1 : Option Addr} {an1 ac1 : Nat} {ae1 : Int} {ag2 : Bool} {aX2 : Option Addr} {an2 ac2 : Nat} {ae2 : Int} {ag3 : Bool} {aX3 : Option Addr} {an3 ac3 : Nat} {ae3 : Int} {awa : Bool} {aD : Option Addr} {adn adc : Nat} {aeh : Bool} {ax1 ax2 : Int} {aL : Option Addr} {aln alc : Nat} (w : World) (c0 : decide (akd < 1) = false) (c1 : decide ((6 : Int) < akd) = false) (hq : badN afr = true ∨ badN att = true) : Calls Try.prog 17 #[.agg (pi0 akd afr att aep anu aab ag0 aX0 an0 ac0 ae0 ag1 aX1 an1 ac1 ae1 ag2 aX2 an2 ac2 ae2 ag3 aX3 an3 ac3 ae3 awa aD adn adc aeh ax1 ax2 aL aln alc)] w fun en w' => en = .returned (.int .i64 100) ∧ Below w.heap.size w w' := by
  obtain ⟨V, hV⟩ : ∃ V, V = w.alloc (.cells (pi0 akd afr att aep anu aab ag0 aX0 an0 ac0 ae0 ag1 aX1 an1 ac1 ae1 ag2 aX2 an2 ac2 ae2 ag3 aX3 an3 ac3 ae3 awa aD adn adc aeh ax1 ax2 aL aln alc) 31) := ⟨_, rfl⟩
  have hB : Below w.heap.size w V := by rw [hV]; exact (Below.refl _ _).alloc (Nat.le_refl _) _
  have ka : Blk V w.heap.size 31 (pi0 akd afr att aep anu aab ag0 aX0 an0 ac0 ae0 ag1 aX1 an1 ac1 ae1 ag2 aX2 an2 ac2 ae2 ag3 aX3 an3 ac3 ae3 awa aD adn adc aeh ax1 ax2 aL aln alc) := by rw [hV]; exact Blk.new w _ _
  have a0 : V.cell? ⟨w.heap.size, 0, none⟩ = some (.int .u8 akd) := by rw [ka.cell]; rfl
  have a1 : V.cell? ⟨w.heap.size, 1, none⟩ = some (.int .i64 afr) := by rw [ka.cell]; rfl
  have a2 : V.cell? ⟨w.heap.size, 2, none⟩ = some (.int .i64 att) := by rw [ka.cell]; rfl
  obtain ⟨V2, hV2⟩ : ∃ V2, V2 = V.alloc (.cells #[.int .i64 afr, .int .i64 att] 3) := ⟨_, rfl⟩
  have kn : Blk V2 V.heap.size 3 #[.int .i64 afr, .int .i64 att] := by rw [hV2]; exact Blk.new V _ _
  have kb : Blk V2 w.heap.size 31 (pi0 akd afr att aep anu aab ag0 aX0 an0 ac0 ae0 ag1 aX1 an1 ac1 ae1 ag2 aX2 an2 ac2 ae2 ag3 aX3 an3 ac3 ae3 awa aD adn adc aeh ax1 ax2 aL aln alc) := by rw [hV2]; exact ka.alloc _
  have hB2 : Below w.heap.size w V2 := by rw [hV2]; exact hB.alloc hB.size _
  have hVs : V.heap.size = w.heap.size + 1 := by rw [hV]; simp
  rw [hVs] at kn
  clear hVs
  have hn := node_any (w.heap.size + 1) afr att V2 (by rw [kn.cell]; rfl) (by rw [kn.cell]; rfl)
  have hnb : (!(badN afr || badN att)) = false := by rcases hq with h | h <;> rw [h] <;> simp
  rw [hnb] at hn
  clear hq hnb kn
  go_enter Try.func17, Try.ntmps17
  go_wp2_with fail
  rw [← hV]
  clear hV
  go_wp2_with fail
  rw [← hV2]
  clear hV2
  refine hn.mono ?_
  rintro en w2 ⟨rfl, rfl⟩
  clear a0 a1 a2 hn
  go_wp2
  go_ret
  exact ⟨rfl, hB2⟩
set_option maxRecDepth 100000 in
set_option maxHeartbeats 16000000 in
theorem ckn3 {akd afr att aep anu aab : Int} {ag0 : Bool} {aX0 : Option Addr} {an0 ac0 : Nat} {ae0 : Int} {ag1 : Bool} {aX1 : Option Addr} {an1 ac1 : Nat} {ae1 : Int} {ag2 : Bool} {aX2 : Option Addr} {an2 ac2 : Nat} {ae2 : Int} {ag3 : Bool} {aX3 : Option Addr} {an3 ac3 : Nat} {ae3 : Int} {awa : Bool} {aD : Option Addr} {adn adc : Nat} {aeh : Bool} {ax1 ax2 : Int} {aL : Option Addr} {aln alc : Nat} (w : World) (c0 : decide (akd < 1) = false) (c1 : decide ((6 : Int) < akd) = false) (hq : badN afr = false ∧ badN att = false) (c3 : decide (aep < 0) = true) : Calls Try.prog 17 #[.agg (pi0 akd afr att aep anu aab ag0 aX0 an0 ac0 ae0 ag1 aX1 an1 ac1 ae1 ag2 aX2 an2 ac2 ae2 ag3 aX3 an3 ac3 ae3 awa aD adn adc aeh ax1 ax2 aL aln alc)] w fun en w' => en = .returned (.int .i64 100) ∧ Below w.heap.size w w' := by
  obtain ⟨V, hV⟩ : ∃ V, V = w.alloc (.cells (pi0 akd afr att aep anu aab ag0 aX0 an0 ac0 ae0 ag1 aX1 an1 ac1 ae1 ag2 aX2 an2 ac2 ae2 ag3 aX3 an3 ac3 ae3 awa aD adn adc aeh ax1 ax2 aL aln alc) 31) := ⟨_, rfl⟩
  have hB : Below w.heap.size w V := by rw [hV]; exact (Below.refl _ _).alloc (Nat.le_refl _) _
  have ka : Blk V w.heap.size 31 (pi0 akd afr att aep anu aab ag0 aX0 an0 ac0 ae0 ag1 aX1 an1 ac1 ae1 ag2 aX2 an2 ac2 ae2 ag3 aX3 an3 ac3 ae3 awa aD adn adc aeh ax1 ax2 aL aln alc) := by rw [hV]; exact Blk.new w _ _
  have a0 : V.cell? ⟨w.heap.size, 0, none⟩ = some (.int .u8 akd) := by rw [ka.cell]; rfl
  have a1 : V.cell? ⟨w.heap.size, 1, none⟩ = some (.int .i64 afr) := by rw [ka.cell]; rfl
  have a2 : V.cell? ⟨w.heap.size, 2, none⟩ = some (.int .i64 att) := by rw [ka.cell]; rfl
  obtain ⟨V2, hV2⟩ : ∃ V2, V2 = V.alloc (.cells #[.int .i64 afr, .int .i64 att] 3) := ⟨_, rfl⟩
  have kn : Blk V2 V.heap.size 3 #[.int .i64 afr, .int .i64 att] := by rw [hV2]; exact Blk.new V _ _
  have kb : Blk V2 w.heap.size 31 (pi0 akd afr att aep anu aab ag0 aX0 an0 ac0 ae0 ag1 aX1 an1 ac1 ae1 ag2 aX2 an2 ac2 ae2 ag3 aX3 an3 ac3 ae3 awa aD adn adc aeh ax1 ax2 aL aln alc) := by rw [hV2]; exact ka.alloc _
  have hB2 : Below w.heap.size w V2 := by rw [hV2]; exact hB.alloc hB.size _
  have hVs : V.heap.size = w.heap.size + 1 := by rw [hV]; simp
  rw [hVs] at kn
  clear hVs
  have hn := node_any (w.heap.size + 1) afr att V2 (by rw [kn.cell]; rfl) (by rw [kn.cell]; rfl)
  have hnb : (!(badN afr || badN att)) = true := by rw [hq.1, hq.2]; rfl
  rw [hnb] at hn
  clear hq hnb kn
  go_enter Try.func17, Try.ntmps17
  go_wp2_with fail
  rw [← hV]
  clear hV
  go_wp2_with fail
  rw [← hV2]
  clear hV2
  refine hn.mono ?_
  rintro en w2 ⟨rfl, rfl⟩
  clear a0 a1 a2 hn
  have a3 : V2.cell? ⟨w.heap.size, 3, none⟩ = some (.int .i64 aep) := by rw [kb.cell]; rfl
  go_wp2
  go_ret
  exact ⟨rfl, hB2⟩
set_option maxRecDepth 100000 in
set_option maxHeartbeats 16000000 in
theorem ckn4 {akd afr att aep anu aab : Int} {ag0 : Bool} {aX0 : Option Addr} {an0 ac0 : Nat} {ae0 : Int} {ag1 : Bool} {aX1 : Option Addr} {an1 ac1 : Nat} {ae1 : Int} {ag2 : Bool} {aX2 : Option Addr} {an2 ac2 : Nat} {ae2 : Int} {ag3 : Bool} {aX3 : Option Addr} {an3 ac3 : Nat} {ae3 : Int} {awa : Bool} {aD : Option Addr} {adn adc : Nat} {aeh : Bool} {ax1 ax2 : Int} {aL : Option Addr} {aln alc : Nat} (w : World) (c0 : decide (akd < 1) = false) (c1 : decide ((6 : Int) < akd) = false) (hq : badN afr = false ∧ badN att = false) (c3 : decide (aep < 0) = false) (c4 : decide ((65535 : Int) < aep) = true) : Calls Try.prog 17 #[.agg (pi0 akd afr att aep anu aab ag0 aX0 an0 ac0 ae0 ag1 aX1 an1 ac1 ae1 ag2 aX2 an2 ac2 ae2 ag3 aX3 an3 ac3 ae3 awa aD adn adc aeh ax1 ax2 aL aln alc)] w fun en w' => en = .returned (.int .i64 100) ∧ Below w.heap.size w w' := by
  obtain ⟨V, hV⟩ : ∃ V, V = w.alloc (.cells (pi0 akd afr att aep anu aab ag0 aX0 an0 ac0 ae0 ag1 aX1 an1 ac1 ae1 ag2 aX2 an2 ac2 ae2 ag3 aX3 an3 ac3 ae3 awa aD adn adc aeh ax1 ax2 aL aln alc) 31) := ⟨_, rfl⟩
  have hB : Below w.heap.size w V := by rw [hV]; exact (Below.refl _ _).alloc (Nat.le_refl _) _
  have ka : Blk V w.heap.size 31 (pi0 akd afr att aep anu aab ag0 aX0 an0 ac0 ae0 ag1 aX1 an1 ac1 ae1 ag2 aX2 an2 ac2 ae2 ag3 aX3 an3 ac3 ae3 awa aD adn adc aeh ax1 ax2 aL aln alc) := by rw [hV]; exact Blk.new w _ _
  have a0 : V.cell? ⟨w.heap.size, 0, none⟩ = some (.int .u8 akd) := by rw [ka.cell]; rfl
  have a1 : V.cell? ⟨w.heap.size, 1, none⟩ = some (.int .i64 afr) := by rw [ka.cell]; rfl
  have a2 : V.cell? ⟨w.heap.size, 2, none⟩ = some (.int .i64 att) := by rw [ka.cell]; rfl
  obtain ⟨V2, hV2⟩ : ∃ V2, V2 = V.alloc (.cells #[.int .i64 afr, .int .i64 att] 3) := ⟨_, rfl⟩
  have kn : Blk V2 V.heap.size 3 #[.int .i64 afr, .int .i64 att] := by rw [hV2]; exact Blk.new V _ _
  have kb : Blk V2 w.heap.size 31 (pi0 akd afr att aep anu aab ag0 aX0 an0 ac0 ae0 ag1 aX1 an1 ac1 ae1 ag2 aX2 an2 ac2 ae2 ag3 aX3 an3 ac3 ae3 awa aD adn adc aeh ax1 ax2 aL aln alc) := by rw [hV2]; exact ka.alloc _
  have hB2 : Below w.heap.size w V2 := by rw [hV2]; exact hB.alloc hB.size _
  have hVs : V.heap.size = w.heap.size + 1 := by rw [hV]; simp
  rw [hVs] at kn
  clear hVs
  have hn := node_any (w.heap.size + 1) afr att V2 (by rw [kn.cell]; rfl) (by rw [kn.cell]; rfl)
  have hnb : (!(badN afr || badN att)) = true := by rw [hq.1, hq.2]; rfl
  rw [hnb] at hn
  clear hq hnb kn
  go_enter Try.func17, Try.ntmps17
  go_wp2_with fail
  rw [← hV]
  clear hV
  go_wp2_with fail
  rw [← hV2]
  clear hV2
  refine hn.mono ?_
  rintro en w2 ⟨rfl, rfl⟩
  clear a0 a1 a2 hn
  have a3 : V2.cell? ⟨w.heap.size, 3, none⟩ = some (.int .i64 aep) := by rw [kb.cell]; rfl
  go_wp2
  go_ret
  exact ⟨rfl, hB2⟩
set_option maxRecDepth 100000 in
set_option maxHeartbeats 16000000 in
theorem ckn5 {akd afr att aep anu aab : Int} {ag0 : Bool} {aX0 : Option Addr} {an0 ac0 : Nat} {ae0 : Int} {ag1 : Bool} {aX1 : Option Addr} {an1 ac1 : Nat} {ae1 : Int} {ag2 : Bool} {aX2 : Option Addr} {an2 ac2 : Nat} {ae2 : Int} {ag3 : Bool} {aX3 : Option Addr} {an3 ac3 : Nat} {ae3 : Int} {awa : Bool} {aD : Option Addr} {adn adc : Nat} {aeh : Bool} {ax1 ax2 : Int} {aL : Option Addr} {aln alc : Nat} (w : World) (c0 : decide (akd < 1) = false) (c1 : decide ((6 : Int) < akd) = false) (hq : badN afr = false ∧ badN att = false) (c3 : decide (aep < 0) = false) (c4 : decide ((65535 : Int) < aep) = false) (c5 : decide (anu < 0) = true) : Calls Try.prog 17 #[.agg (pi0 akd afr att aep anu aab ag0 aX0 an0 ac0 ae0 ag1 aX1 an1 ac1 ae1 ag2 aX2 an2 ac2 ae2 ag3 aX3 an3 ac3 ae3 awa aD adn adc aeh ax1 ax2 aL aln alc)] w fun en w' => en = .returned (.int .i64 100) ∧ Below w.heap.size w w' := by
  obtain ⟨V, hV⟩ : ∃ V, V = w.alloc (.cells (pi0 akd afr att aep anu aab ag0 aX0 an0 ac0 ae0 ag1 aX1 an1 ac1 ae1 ag2 aX2 an2 ac2 ae2 ag3 aX3 an3 ac3 ae3 awa aD adn adc aeh ax1 ax2 aL aln alc) 31) := ⟨_, rfl⟩
  have hB : Below w.heap.size w V := by rw [hV]; exact (Below.refl _ _).alloc (Nat.le_refl _) _
  have ka : Blk V w.heap.size 31 (pi0 akd afr att aep anu aab ag0 aX0 an0 ac0 ae0 ag1 aX1 an1 ac1 ae1 ag2 aX2 an2 ac2 ae2 ag3 aX3 an3 ac3 ae3 awa aD adn adc aeh ax1 ax2 aL aln alc) := by rw [hV]; exact Blk.new w _ _
  have a0 : V.cell? ⟨w.heap.size, 0, none⟩ = some (.int .u8 akd) := by rw [ka.cell]; rfl
  have a1 : V.cell? ⟨w.heap.size, 1, none⟩ = some (.int .i64 afr) := by rw [ka.cell]; rfl
  have a2 : V.cell? ⟨w.heap.size, 2, none⟩ = some (.int .i64 att) := by rw [ka.cell]; rfl
  obtain ⟨V2, hV2⟩ : ∃ V2, V2 = V.alloc (.cells #[.int .i64 afr, .int .i64 att] 3) := ⟨_, rfl⟩
  have kn : Blk V2 V.heap.size 3 #[.int .i64 afr, .int .i64 att] := by rw [hV2]; exact Blk.new V _ _
  have kb : Blk V2 w.heap.size 31 (pi0 akd afr att aep anu aab ag0 aX0 an0 ac0 ae0 ag1 aX1 an1 ac1 ae1 ag2 aX2 an2 ac2 ae2 ag3 aX3 an3 ac3 ae3 awa aD adn adc aeh ax1 ax2 aL aln alc) := by rw [hV2]; exact ka.alloc _
  have hB2 : Below w.heap.size w V2 := by rw [hV2]; exact hB.alloc hB.size _
  have hVs : V.heap.size = w.heap.size + 1 := by rw [hV]; simp
  rw [hVs] at kn
  clear hVs
  have hn := node_any (w.heap.size + 1) afr att V2 (by rw [kn.cell]; rfl) (by rw [kn.cell]; rfl)
  have hnb : (!(badN afr || badN att)) = true := by rw [hq.1, hq.2]; rfl
  rw [hnb] at hn
  clear hq hnb kn
  go_enter Try.func17, Try.ntmps17
  go_wp2_with fail
  rw [← hV]
  clear hV
  go_wp2_with fail
  rw [← hV2]
  clear hV2
  refine hn.mono ?_
  rintro en w2 ⟨rfl, rfl⟩
  clear a0 a1 a2 hn
  have a3 : V2.cell? ⟨w.heap.size, 3, none⟩ = some (.int .i64 aep) := by rw [kb.cell]; rfl
  have a4 : V2.cell? ⟨w.heap.size, 4, none⟩ = some (.int .i64 anu) := by rw [kb.cell]; rfl
  go_wp2
  go_ret
  exact ⟨rfl, hB2⟩
set_option maxRecDepth 100000 in
set_option maxHeartbeats 16000000 in
theorem ckn6 {akd afr att aep anu aab : Int} {ag0 : Bool} {aX0 : Option Addr} {an0 ac0 : Nat} {ae0 : Int} {ag1 : Bool} {aX1 : Option Addr} {an1 ac1 : Nat} {ae1 : Int} {ag2 : Bool} {aX2 : Option Addr} {an2 ac2 : Nat} {ae2 : Int} {ag3 : Bool} {aX3 : Option Addr} {an3 ac3 : Nat} {ae3 : Int} {awa : Bool} {aD : Option Addr} {adn adc : Nat} {aeh : Bool} {ax1 ax2 : Int} {aL : Option Addr} {aln alc : Nat} (w : World) (c0 : decide (akd < 1) = false) (c1 : decide ((6 : Int) < akd) = false) (hq : badN afr = false ∧ badN att = false) (c3 : decide (aep < 0) = false) (c4 : decide ((65535 : Int) < aep) = false) (c5 : decide (anu < 0) = false) (c6 : decide ((1048575 : Int) < anu) = true) : Calls Try.prog 17 #[.agg (pi0 akd afr att aep anu aab ag0 aX0 an0 ac0 ae0 ag1 aX1 an1 ac1 ae1 ag2 aX2 an2 ac2 ae2 ag3 aX3 an3 ac3 ae3 awa aD adn adc aeh ax1 ax2 aL aln alc)] w fun en w' => en = .returned (.int .i64 100) ∧ Below w.heap.size w w' := by
  obtain ⟨V, hV⟩ : ∃ V, V = w.alloc (.cells (pi0 akd afr att aep anu aab ag0 aX0 an0 ac0 ae0 ag1 aX1 an1 ac1 ae1 ag2 aX2 an2 ac2 ae2 ag3 aX3 an3 ac3 ae3 awa aD adn adc aeh ax1 ax2 aL aln alc) 31) := ⟨_, rfl⟩
  have hB : Below w.heap.size w V := by rw [hV]; exact (Below.refl _ _).alloc (Nat.le_refl _) _
  have ka : Blk V w.heap.size 31 (pi0 akd afr att aep anu aab ag0 aX0 an0 ac0 ae0 ag1 aX1 an1 ac1 ae1 ag2 aX2 an2 ac2 ae2 ag3 aX3 an3 ac3 ae3 awa aD adn adc aeh ax1 ax2 aL aln alc) := by rw [hV]; exact Blk.new w _ _
  have a0 : V.cell? ⟨w.heap.size, 0, none⟩ = some (.int .u8 akd) := by rw [ka.cell]; rfl
  have a1 : V.cell? ⟨w.heap.size, 1, none⟩ = some (.int .i64 afr) := by rw [ka.cell]; rfl
  have a2 : V.cell? ⟨w.heap.size, 2, none⟩ = some (.int .i64 att) := by rw [ka.cell]; rfl
  obtain ⟨V2, hV2⟩ : ∃ V2, V2 = V.alloc (.cells #[.int .i64 afr, .int .i64 att] 3) := ⟨_, rfl⟩
  have kn : Blk V2 V.heap.size 3 #[.int .i64 afr, .int .i64 att] := by rw [hV2]; exact Blk.new V _ _
  have kb : Blk V2 w.heap.size 31 (pi0 akd afr att aep anu aab ag0 aX0 an0 ac0 ae0 ag1 aX1 an1 ac1 ae1 ag2 aX2 an2 ac2 ae2 ag3 aX3 an3 ac3 ae3 awa aD adn adc aeh ax1 ax2 aL aln alc) := by rw [hV2]; exact ka.alloc _
  have hB2 : Below w.heap.size w V2 := by rw [hV2]; exact hB.alloc hB.size _
  have hVs : V.heap.size = w.heap.size + 1 := by rw [hV]; simp
  rw [hVs] at kn
  clear hVs
  have hn := node_any (w.heap.size + 1) afr att V2 (by rw [kn.cell]; rfl) (by rw [kn.cell]; rfl)
  have hnb : (!(badN afr || badN att)) = true := by rw [hq.1, hq.2]; rfl
  rw [hnb] at hn
  clear hq hnb kn
  go_enter Try.func17, Try.ntmps17
  go_wp2_with fail
  rw [← hV]
  clear hV
  go_wp2_with fail
  rw [← hV2]
  clear hV2
  refine hn.mono ?_
  rintro en w2 ⟨rfl, rfl⟩
  clear a0 a1 a2 hn
  have a3 : V2.cell? ⟨w.heap.size, 3, none⟩ = some (.int .i64 aep) := by rw [kb.cell]; rfl
  have a4 : V2.cell? ⟨w.heap.size, 4, none⟩ = some (.int .i64 anu) := by rw [kb.cell]; rfl
  go_wp2
  go_ret
  exact ⟨rfl, hB2⟩
set_option maxRecDepth 100000 in
set_option maxHeartbeats 16000000 in
theorem ckn7 {akd afr att aep anu aab : Int} {ag0 : Bool} {aX0 : Option Addr} {an0 ac0 : Nat} {ae0 : Int} {ag1 : Bool} {aX1 : Option Addr} {an1 ac1 : Nat} {ae1 : Int} {ag2 : Bool} {aX2 : Option Addr} {an2 ac2 : Nat} {ae2 : Int} {ag3 : Bool} {aX3 : Option Addr} {an3 ac3 : Nat} {ae3 : Int} {awa : Bool} {aD : Option Addr} {adn adc : Nat} {aeh : Bool} {ax1 ax2 : Int} {aL : Option Addr} {aln alc : Nat} (w : World) (c0 : decide (akd < 1) = false) (c1 : decide ((6 : Int) < akd) = false) (hq : badN afr = false ∧ badN att = false) (c3 : decide (aep < 0) = false) (c4 : decide ((65535 : Int) < aep) = false) (c5 : decide (anu < 0) = false) (c6 : decide ((1048575 : Int) < anu) = false) (c7 : decide (aab < 0) = true) : Calls Try.prog 17 #[.agg (pi0 akd afr att aep anu aab ag0 aX0 an0 ac0 ae0 ag1 aX1 an1 ac1 ae1 ag2 aX2 an2 ac2 ae2 ag3 aX3 an3 ac3 ae3 awa aD adn adc aeh ax1 ax2 aL aln alc)] w fun en w' => en = .returned (.int .i64 100) ∧ Below w.heap.size w w' := by
  obtain ⟨V, hV⟩ : ∃ V, V = w.alloc (.cells (pi0 akd afr att aep anu aab ag0 aX0 an0 ac0 ae0 ag1 aX1 an1 ac1 ae1 ag2 aX2 an2 ac2 ae2 ag3 aX3 an3 ac3 ae3 awa aD adn adc aeh ax1 ax2 aL aln alc) 31) := ⟨_, rfl⟩
  have hB : Below w.heap.size w V := by rw [hV]; exact (Below.refl _ _).alloc (Nat.le_refl _) _
  have ka : Blk V w.heap.size 31 (pi0 akd afr att aep anu aab ag0 aX0 an0 ac0 ae0 ag1 aX1 an1 ac1 ae1 ag2 aX2 an2 ac2 ae2 ag3 aX3 an3 ac3 ae3 awa aD adn adc aeh ax1 ax2 aL aln alc) := by rw [hV]; exact Blk.new w _ _
  have a0 : V.cell? ⟨w.heap.size, 0, none⟩ = some (.int .u8 akd) := by rw [ka.cell]; rfl
  have a1 : V.cell? ⟨w.heap.size, 1, none⟩ = some (.int .i64 afr) := by rw [ka.cell]; rfl
  have a2 : V.cell? ⟨w.heap.size, 2, none⟩ = some (.int .i64 att) := by rw [ka.cell]; rfl
  obtain ⟨V2, hV2⟩ : ∃ V2, V2 = V.alloc (.cells #[.int .i64 afr, .int .i64 att] 3) := ⟨_, rfl⟩
  have kn : Blk V2 V.heap.size 3 #[.int .i64 afr, .int .i64 att] := by rw [hV2]; exact Blk.new V _ _
  have kb : Blk V2 w.heap.size 31 (pi0 akd afr att aep anu aab ag0 aX0 an0 ac0 ae0 ag1 aX1 an1 ac1 ae1 ag2 aX2 an2 ac2 ae2 ag3 aX3 an3 ac3 ae3 awa aD adn adc aeh ax1 ax2 aL aln alc) := by rw [hV2]; exact ka.alloc _
  have hB2 : Below w.heap.size w V2 := by rw [hV2]; exact hB.alloc hB.size _
  have hVs : V.heap.size = w.heap.size + 1 := by rw [hV]; simp
  rw [hVs] at kn
  clear hVs
  have hn := node_any (w.heap.size + 1) afr att V2 (by rw [kn.cell]; rfl) (by rw [kn.cell]; rfl)
  have hnb : (!(badN afr || badN att)) = true := by rw [hq.1, hq.2]; rfl
  rw [hnb] at hn
  clear hq hnb kn
  go_enter Try.func17, Try.ntmps17
  go_wp2_with fail
  rw [← hV]
  clear hV
  go_wp2_with fail
  rw [← hV2]
  clear hV2
  refine hn.mono ?_
  rintro en w2 ⟨rfl, rfl⟩
  clear a0 a1 a2 hn
  have a3 : V2.cell? ⟨w.heap.size, 3, none⟩ = some (.int .i64 aep) := by rw [kb.cell]; rfl
  have a4 : V2.cell? ⟨w.heap.size, 4, none⟩ = some (.int .i64 anu) := by rw [kb.cell]; rfl
  have a5 : V2.cell? ⟨w.heap.size, 5, none⟩ = some (.int .i64 aab) := by rw [kb.cell]; rfl
  go_wp2
  go_ret
  exact ⟨rfl, hB2⟩
set_option maxRecDepth 100000 in
set_option maxHeartbeats 16000000 in
theorem ckn8 {akd afr att aep anu aab : Int} {ag0 : Bool} {aX0 : Option Addr} {an0 ac0 : Nat} {ae0 : Int} {ag1 : Bool} {aX1 : Option Addr} {an1 ac1 : Nat} {ae1 : Int} {ag2 : Bool} {aX2 : Option Addr} {an2 ac2 : Nat} {ae2 : Int} {ag3 : Bool} {aX3 : Option Addr} {an3 ac3 : Nat} {ae3 : Int} {awa : Bool} {aD : Option Addr} {adn adc : Nat} {aeh : Bool} {ax1 ax2 : Int} {aL : Option Addr} {aln alc : Nat} (w : World) (c0 : decide (akd < 1) = false) (c1 : decide ((6 : Int) < akd) = false) (hq : badN afr = false ∧ badN att = false) (c3 : decide (aep < 0) = false) (c4 : decide ((65535 : Int) < aep) = false) (c5 : decide (anu < 0) = false) (c6 : decide ((1048575 : Int) < anu) = false) (c7 : decide (aab < 0) = false) (c8 : decide ((1048575 : Int) < aab) = true) : Calls Try.prog 17 #[.agg (pi0 akd afr att aep anu aab ag0 aX0 an0 ac0 ae0 ag1 aX1 an1 ac1 ae1 ag2 aX2 an2 ac2 ae2 ag3 aX3 an3 ac3 ae3 awa aD adn adc aeh ax1 ax2 aL aln alc)] w fun en w' => en = .returned (.int .i64 100) ∧ Below w.heap.size w w' := by
  obtain ⟨V, hV⟩ : ∃ V, V = w.alloc (.cells (pi0 akd afr att aep anu aab ag0 aX0 an0 ac0 ae0 ag1 aX1 an1 ac1 ae1 ag2 aX2 an2 ac2 ae2 ag3 aX3 an3 ac3 ae3 awa aD adn adc aeh ax1 ax2 aL aln alc) 31) := ⟨_, rfl⟩
  have hB : Below w.heap.size w V := by rw [hV]; exact (Below.refl _ _).alloc (Nat.le_refl _) _
  have ka : Blk V w.heap.size 31 (pi0 akd afr att aep anu aab ag0 aX0 an0 ac0 ae0 ag1 aX1 an1 ac1 ae1 ag2 aX2 an2 ac2 ae2 ag3 aX3 an3 ac3 ae3 awa aD adn adc aeh ax1 ax2 aL aln alc) := by rw [hV]; exact Blk.new w _ _
  have a0 : V.cell? ⟨w.heap.size, 0, none⟩ = some (.int .u8 akd) := by rw [ka.cell]; rfl
  have a1 : V.cell? ⟨w.heap.size, 1, none⟩ = some (.int .i64 afr) := by rw [ka.cell]; rfl
  have a2 : V.cell? ⟨w.heap.size, 2, none⟩ = some (.int .i64 att) := by rw [ka.cell]; rfl
  obtain ⟨V2, hV2⟩ : ∃ V2, V2 = V.alloc (.cells #[.int .i64 afr, .int .i64 att] 3) := ⟨_, rfl⟩
  have kn : Blk V2 V.heap.size 3 #[.int .i64 afr, .int .i64 att] := by rw [hV2]; exact Blk.new V _ _
  have kb : Blk V2 w.heap.size 31 (pi0 akd afr att aep anu aab ag0 aX0 an0 ac0 ae0 ag1 aX1 an1 ac1 ae1 ag2 aX2 an2 ac2 ae2 ag3 aX3 an3 ac3 ae3 awa aD adn adc aeh ax1 ax2 aL aln alc) := by rw [hV2]; exact ka.alloc _
  have hB2 : Below w.heap.size w V2 := by rw [hV2]; exact hB.alloc hB.size _
  have hVs : V.heap.size = w.heap.size + 1 := by rw [hV]; simp
  rw [hVs] at kn
  clear hVs
  have hn := node_any (w.heap.size + 1) afr att V2 (by rw [kn.cell]; rfl) (by rw [kn.cell]; rfl)
  have hnb : (!(badN afr || badN att)) = true := by rw [hq.1, hq.2]; rfl
  rw [hnb] at hn
  clear hq hnb kn
  go_enter Try.func17, Try.ntmps17
  go_wp2_with fail
  rw [← hV]
  clear hV
  go_wp2_with fail
  rw [← hV2]
  clear hV2
  refine hn.mono ?_
  rintro en w2 ⟨rfl, rfl⟩
  clear a0 a1 a2 hn
  have a3 : V2.cell? ⟨w.heap.size, 3, none⟩ = some (.int .i64 aep) := by rw [kb.cell]; rfl
  have a4 : V2.cell? ⟨w.heap.size, 4, none⟩ = some (.int .i64 anu) := by rw [kb.cell]; rfl
  have a5 : V2.cell? ⟨w.heap.size, 5, none⟩ = some (.int .i64 aab) := by rw [kb.cell]; rfl
  go_wp2
  go_ret
  exact ⟨rfl, hB2⟩
end Go.Proofs.Ytjmhefkmpfkpbaa
namespace Go.Proofs.Ytjmhefkmpfkpbaa
open Go.ChangeShapes Go.WideShapes Go.ChangeAt Go.RowKit
set_option linter.unusedSimpArgs false
set_option linter.unusedVariables false
abbrev pj0 (akd afr att aep anu aab : Int) (ag0 : Bool) (aX0 : Option Addr) (an0 ac0 : Nat) (ae0 : Int) (ag1 : Bool) (aX1 : Option Addr) (an1 ac1 : Nat) (ae1 : Int) (ag2 : Bool) (aX2 : Option Addr) (an2 ac2 : Nat) (ae2 : Int) (ag3 : Bool) (aX3 : Option Addr) (an3 ac3 : Nat) (ae3 : Int) (awa : Bool) (aD : Option Addr) (adn adc : Nat) (aeh : Bool) (ax1 ax2 : Int) (aL : Option Addr) (aln alc : Nat) : Array Value := #[.int .u8 akd, .int .i64 afr, .int .i64 att, .int .i64 aep, .int .i64 anu, .int .i64 aab, .bool ag0, .slice aX0 an0 ac0, .int .i64 ae0, .bool ag1, .slice aX1 an1 ac1, .int .i64 ae1, .bool ag2, .slice aX2 an2 ac2, .int .i64 ae2, .bool ag3, .slice aX3 an3 ac3, .int .i64 ae3, .bool awa, .slice aD adn adc, .bool aeh, .int .i64 ax1, .int .i64 ax2, .slice aL aln alc]
abbrev pj1 (ag0 : Bool) (aX0 : Option Addr) (an0 ac0 : Nat) (ae0 : Int) (ag1 : Bool) (aX1 : Option Addr) (an1 ac1 : Nat) (ae1 : Int) (ag2 : Bool) (aX2 : Option Addr) (an2 ac2 : Nat) (ae2 : Int) (ag3 : Bool) (aX3 : Option Addr) (an3 ac3 : Nat) (ae3 : Int) : Array Value := #[.bool ag0, .slice aX0 an0 ac0, .int .i64 ae0, .bool ag1, .slice aX1 an1 ac1, .int .i64 ae1, .bool ag2, .slice aX2 an2 ac2, .int .i64 ae2, .bool ag3, .slice aX3 an3 ac3, .int .i64 ae3]
set_option maxRecDepth 100000 in
set_option maxHeartbeats 16000000 in
theorem ckt0 {akd afr att aep anu aab : Int} {ag0 : Bool} {aX0 : Option Addr} {an0 ac0 : Nat} {ae0 : Int} {ag1 : Bool} {aX1 : Option Addr} {an1 ac1 : Nat} {ae1 : Int} {ag2 : Bool} {aX2 : Option Addr} {an2 ac2 : Nat} {ae2 : Int} {ag3 : Bool} {aX3 : Option Addr} {an3 ac3 : Nat} {ae3 : Int} {awa : Bool} {aD : Option Addr} {adn adc : Nat} {aeh : Bool} {ax1 ax2 : Int} {aL : Option Addr} {aln alc : Nat} (w : World) (c0 : decide (akd < 1) = false) (c1 : decide ((6 : Int) < akd) = false) (hq : badN afr = false ∧ badN att = false) (c3 : decide (aep < 0) = false) (c4 : decide ((65535 : Int) < aep) = false) (c5 : decide (anu < 0) = false) (c6 : decide ((1048575 : Int) < anu) = false) (c7 : decide (aab < 0) = false) (c8 : decide ((1048575 : Int) < aab) = false) (hm : ∀ w', Below w.heap.size w w' → Calls Try.prog 41 #[.agg (pj1 ag0 aX0 an0 ac0 ae0 ag1 aX1 an1 ac1 ae1 ag2 aX2 an2 ac2 ae2 ag3 aX3 an3 ac3 ae3)] w' fun en w'' => en = .returned (.int .i64 8) ∧ Below w'.heap.size w' w'') : Calls Try.prog 17 #[.agg (pj0 akd afr att aep anu aab ag0 aX0 an0 ac0 ae0 ag1 aX1 an1 ac1 ae1 ag2 aX2 an2 ac2 ae2 ag3 aX3 an3 ac3 ae3 awa aD adn adc aeh ax1 ax2 aL aln alc)] w fun en w' => en = .returned (.int .i64 100) ∧ Below w.heap.size w w' := by
  obtain ⟨V, hV⟩ : ∃ V, V = w.alloc (.cells (pj0 akd afr att aep anu aab ag0 aX0 an0 ac0 ae0 ag1 aX1 an1 ac1 ae1 ag2 aX2 an2 ac2 ae2 ag3 aX3 an3 ac3 ae3 awa aD adn adc aeh ax1 ax2 aL aln alc) 31) := ⟨_, rfl⟩
  have hB : Below w.heap.size w V := by rw [hV]; exact (Below.refl _ _).alloc (Nat.le_refl _) _
  have ka : Blk V w.heap.size 31 (pj0 akd afr att aep anu aab ag0 aX0 an0 ac0 ae0 ag1 aX1 an1 ac1 ae1 ag2 aX2 an2 ac2 ae2 ag3 aX3 an3 ac3 ae3 awa aD adn adc aeh ax1 ax2 aL aln alc) := by rw [hV]; exact Blk.new w _ _
  have a0 : V.cell? ⟨w.heap.size, 0, none⟩ = some (.int .u8 akd) := by rw [ka.cell]; rfl
  have a1 : V.cell? ⟨w.heap.size, 1, none⟩ = some (.int .i64 afr) := by rw [ka.cell]; rfl
  have a2 : V.cell? ⟨w.heap.size, 2, none⟩ = some (.int .i64 att) := by rw [ka.cell]; rfl
  obtain ⟨V2, hV2⟩ : ∃ V2, V2 = V.alloc (.cells #[.int .i64 afr, .int .i64 att] 3) := ⟨_, rfl⟩
  have kn : Blk V2 V.heap.size 3 #[.int .i64 afr, .int .i64 att] := by rw [hV2]; exact Blk.new V _ _
  have kb : Blk V2 w.heap.size 31 (pj0 akd afr att aep anu aab ag0 aX0 an0 ac0 ae0 ag1 aX1 an1 ac1 ae1 ag2 aX2 an2 ac2 ae2 ag3 aX3 an3 ac3 ae3 awa aD adn adc aeh ax1 ax2 aL aln alc) := by rw [hV2]; exact ka.alloc _
  have hB2 : Below w.heap.size w V2 := by rw [hV2]; exact hB.alloc hB.size _
  have hVs : V.heap.size = w.heap.size + 1 := by rw [hV]; simp
  rw [hVs] at kn
  clear hVs
  have hn := node_any (w.heap.size + 1) afr att V2 (by rw [kn.cell]; rfl) (by rw [kn.cell]; rfl)
  have hnb : (!(badN afr || badN att)) = true := by rw [hq.1, hq.2]; rfl
  rw [hnb] at hn
  clear hq hnb kn
  have fhm := fun q : Bw V2.heap.size V2 => Calls.bw (hm q.w (hB2.trans (q.h.mono hB2.size))) (Nat.le_refl _)
  have r1 : ∀ q : Bw V2.heap.size V2, q.w.rangeAt w.heap.size 6 [.bool ag0, .slice aX0 an0 ac0, .int .i64 ae0, .bool ag1, .slice aX1 an1 ac1, .int .i64 ae1, .bool ag2, .slice aX2 an2 ac2, .int .i64 ae2, .bool ag3, .slice aX3 an3 ac3, .int .i64 ae3] := fun q => (kb.below q.h kb.lt).range 6 _ rfl
  clear hm
  go_enter Try.func17, Try.ntmps17
  go_wp2_with fail
  rw [← hV]
  clear hV
  go_wp2_with fail
  rw [← hV2]
  clear hV2
  refine hn.mono ?_
  rintro en w2 ⟨rfl, rfl⟩
  clear a0 a1 a2 hn
  have a3 : V2.cell? ⟨w.heap.size, 3, none⟩ = some (.int .i64 aep) := by rw [kb.cell]; rfl
  have a4 : V2.cell? ⟨w.heap.size, 4, none⟩ = some (.int .i64 anu) := by rw [kb.cell]; rfl
  have a5 : V2.cell? ⟨w.heap.size, 5, none⟩ = some (.int .i64 aab) := by rw [kb.cell]; rfl
  go_upto_region 3 with (fail)
  clear a3 a4 a5
  refine wp_region_wq V2.heap.size V2 (Below.refl _ _) (by kernel_rfl) (by kernel_rfl) ?_
  repeat (first | (refine WQ.yes (by rfl) (fun K hK => ?_); refine quiet_load_mid 26 _ rfl w.heap.size 6 rfl [.bool ag0, .slice aX0 an0 ac0, .int .i64 ae0, .bool ag1, .slice aX1 an1 ac1, .int .i64 ae1, .bool ag2, .slice aX2 an2 ac2, .int .i64 ae2, .bool ag3, .slice aX3 an3 ac3, .int .i64 ae3] _ r1 Try.underlying26 rfl (by kernel_rfl) (hK _ ?_); clear hK K; simp only [Act.put, lsA, lsZ, lsS]) | (refine WQ.yes (by rfl) (fun K hK => ?_); go_simp; first | (refine hK _ ?_; clear hK K) | (apply Exists.intro; refine ⟨fun _ => ?_, hK _ ?_⟩; (first | exact fhm _); clear hK K)) | (refine WQ.no (by rfl) ?_; (try simp only [Act.put, lsA, lsZ, lsS])))
  refine WQ.nil ?_
  intro pq
  have hpB := hB2.trans (pq.h.mono hB2.size)
  clear r1  fhm
  go_wp2
  go_ret
  exact ⟨rfl, hpB⟩
set_option maxRecDepth 100000 in
set_option maxHeartbeats 16000000 in
theorem ckt1 {akd afr att aep anu aab : Int} {ag0 : Bool} {aX0 : Option Addr} {an0 ac0 : Nat} {ae0 : Int} {ag1 : Bool} {aX1 : Option Addr} {an1 ac1 : Nat} {ae1 : Int} {ag2 : Bool} {aX2 : Option Addr} {an2 ac2 : Nat} {ae2 : Int} {ag3 : Bool} {aX3 : Option Addr} {an3 ac3 : Nat} {ae3 : Int} {awa : Bool} {aD : Option Addr} {adn adc : Nat} {aeh : Bool} {ax1 ax2 : Int} {aL : Option Addr} {aln alc : Nat} (w : World) (c0 : decide (akd < 1) = false) (c1 : decide ((6 : Int) < akd) = false) (hq : badN afr = false ∧ badN att = false) (c3 : decide (aep < 0) = false) (c4 : decide ((65535 : Int) < aep) = false) (c5 : decide (anu < 0) = false) (c6 : decide ((1048575 : Int) < anu) = false) (c7 : decide (aab < 0) = false) (c8 : decide ((1048575 : Int) < aab) = false) (hm : ∀ w', Below w.heap.size w w' → Calls Try.prog 41 #[.agg (pj1 ag0 aX0 an0 ac0 ae0 ag1 aX1 an1 ac1 ae1 ag2 aX2 an2 ac2 ae2 ag3 aX3 an3 ac3 ae3)] w' fun en w'' => en = .returned (.int .i64 0) ∧ Below w'.heap.size w' w'') (Ed : Int) (hEd : (Ed != 0) = true) (hd : ∀ w', Below w.heap.size w w' → Calls Try.prog 42 #[.slice aD adn adc] w' fun en w'' => en = .returned (.int .i64 Ed) ∧ Below w'.heap.size w' w'') : Calls Try.prog 17 #[.agg (pj0 akd afr att aep anu aab ag0 aX0 an0 ac0 ae0 ag1 aX1 an1 ac1 ae1 ag2 aX2 an2 ac2 ae2 ag3 aX3 an3 ac3 ae3 awa aD adn adc aeh ax1 ax2 aL aln alc)] w fun en w' => en = .returned (.int .i64 100) ∧ Below w.heap.size w w' := by
  obtain ⟨V, hV⟩ : ∃ V, V = w.alloc (.cells (pj0 akd afr att aep anu aab ag0 aX0 an0 ac0 ae0 ag1 aX1 an1 ac1 ae1 ag2 aX2 an2 ac2 ae2 ag3 aX3 an3 ac3 ae3 awa aD adn adc aeh ax1 ax2 aL aln alc) 31) := ⟨_, rfl⟩
  have hB : Below w.heap.size w V := by rw [hV]; exact (Below.refl _ _).alloc (Nat.le_refl _) _
  have ka : Blk V w.heap.size 31 (pj0 akd afr att aep anu aab ag0 aX0 an0 ac0 ae0 ag1 aX1 an1 ac1 ae1 ag2 aX2 an2 ac2 ae2 ag3 aX3 an3 ac3 ae3 awa aD adn adc aeh ax1 ax2 aL aln alc) := by rw [hV]; exact Blk.new w _ _
  have a0 : V.cell? ⟨w.heap.size, 0, none⟩ = some (.int .u8 akd) := by rw [ka.cell]; rfl
  have a1 : V.cell? ⟨w.heap.size, 1, none⟩ = some (.int .i64 afr) := by rw [ka.cell]; rfl
  have a2 : V.cell? ⟨w.heap.size, 2, none⟩ = some (.int .i64 att) := by rw [ka.cell]; rfl
  obtain ⟨V2, hV2⟩ : ∃ V2, V2 = V.alloc (.cells #[.int .i64 afr, .int .i64 att] 3) := ⟨_, rfl⟩
  have kn : Blk V2 V.heap.size 3 #[.int .i64 afr, .int .i64 att] := by rw [hV2]; exact Blk.new V _ _
  have kb : Blk V2 w.heap.size 31 (pj0 akd afr att aep anu aab ag0 aX0 an0 ac0 ae0 ag1 aX1 an1 ac1 ae1 ag2 aX2 an2 ac2 ae2 ag3 aX3 an3 ac3 ae3 awa aD adn adc aeh ax1 ax2 aL aln alc) := by rw [hV2]; exact ka.alloc _
  have hB2 : Below w.heap.size w V2 := by rw [hV2]; exact hB.alloc hB.size _
  have hVs : V.heap.size = w.heap.size + 1 := by rw [hV]; simp
  rw [hVs] at kn
  clear hVs
  have hn := node_any (w.heap.size + 1) afr att V2 (by rw [kn.cell]; rfl) (by rw [kn.cell]; rfl)
  have hnb : (!(badN afr || badN att)) = true := by rw [hq.1, hq.2]; rfl
  rw [hnb] at hn
  clear hq hnb kn
  have fhm := fun q : Bw V2.heap.size V2 => Calls.bw (hm q.w (hB2.trans (q.h.mono hB2.size))) (Nat.le_refl _)
  have fhd := fun q : Bw V2.heap.size V2 => Calls.bw (hd q.w (hB2.trans (q.h.mono hB2.size))) (Nat.le_refl _)
  have r1 : ∀ q : Bw V2.heap.size V2, q.w.rangeAt w.heap.size 6 [.bool ag0, .slice aX0 an0 ac0, .int .i64 ae0, .bool ag1, .slice aX1 an1 ac1, .int .i64 ae1, .bool ag2, .slice aX2 an2 ac2, .int .i64 ae2, .bool ag3, .slice aX3 an3 ac3, .int .i64 ae3] := fun q => (kb.below q.h kb.lt).range 6 _ rfl
  have s18 : ∀ q : Bw V2.heap.size V2, q.w.cell? ⟨w.heap.size, 18, none⟩ = some (.bool awa) := fun q => (q.h.cell (p := ⟨w.heap.size, 18, none⟩) kb.lt).trans (by rw [kb.cell]; rfl)
  have s19 : ∀ q : Bw V2.heap.size V2, q.w.cell? ⟨w.heap.size, 19, none⟩ = some (.slice aD adn adc) := fun q => (q.h.cell (p := ⟨w.heap.size, 19, none⟩) kb.lt).trans (by rw [kb.cell]; rfl)
  clear hm hd
  go_enter Try.func17, Try.ntmps17
  go_wp2_with fail
  rw [← hV]
  clear hV
  go_wp2_with fail
  rw [← hV2]
  clear hV2
  refine hn.mono ?_
  rintro en w2 ⟨rfl, rfl⟩
  clear a0 a1 a2 hn
  have a3 : V2.cell? ⟨w.heap.size, 3, none⟩ = some (.int .i64 aep) := by rw [kb.cell]; rfl
  have a4 : V2.cell? ⟨w.heap.size, 4, none⟩ = some (.int .i64 anu) := by rw [kb.cell]; rfl
  have a5 : V2.cell? ⟨w.heap.size, 5, none⟩ = some (.int .i64 aab) := by rw [kb.cell]; rfl
  go_upto_region 3 with (fail)
  clear a3 a4 a5
  refine wp_region_wq V2.heap.size V2 (Below.refl _ _) (by kernel_rfl) (by kernel_rfl) ?_
  repeat (first | (refine WQ.yes (by rfl) (fun K hK => ?_); refine quiet_load_mid 26 _ rfl w.heap.size 6 rfl [.bool ag0, .slice aX0 an0 ac0, .int .i64 ae0, .bool ag1, .slice aX1 an1 ac1, .int .i64 ae1, .bool ag2, .slice aX2 an2 ac2, .int .i64 ae2, .bool ag3, .slice aX3 an3 ac3, .int .i64 ae3] _ r1 Try.underlying26 rfl (by kernel_rfl) (hK _ ?_); clear hK K; simp only [Act.put, lsA, lsZ, lsS]) | (refine WQ.yes (by rfl) (fun K hK => ?_); go_simp; first | (refine hK _ ?_; clear hK K) | (apply Exists.intro; refine ⟨fun _ => ?_, hK _ ?_⟩; (first | exact fhm _ | exact fhd _); clear hK K)) | (refine WQ.no (by rfl) ?_; (try simp only [Act.put, lsA, lsZ, lsS])))
  refine WQ.nil ?_
  intro pq
  have hpB := hB2.trans (pq.h.mono hB2.size)
  clear r1 s18 s19 fhm fhd
  go_wp2
  go_ret
  exact ⟨rfl, hpB⟩
set_option maxRecDepth 100000 in
set_option maxHeartbeats 16000000 in
theorem ckt2 {akd afr att aep anu aab : Int} {ag0 : Bool} {aX0 : Option Addr} {an0 ac0 : Nat} {ae0 : Int} {ag1 : Bool} {aX1 : Option Addr} {an1 ac1 : Nat} {ae1 : Int} {ag2 : Bool} {aX2 : Option Addr} {an2 ac2 : Nat} {ae2 : Int} {ag3 : Bool} {aX3 : Option Addr} {an3 ac3 : Nat} {ae3 : Int} {awa : Bool} {aD : Option Addr} {adn adc : Nat} {aeh : Bool} {ax1 ax2 : Int} {aL : Option Addr} {aln alc : Nat} (w : World) (c0 : decide (akd < 1) = false) (c1 : decide ((6 : Int) < akd) = false) (hq : badN afr = false ∧ badN att = false) (c3 : decide (aep < 0) = false) (c4 : decide ((65535 : Int) < aep) = false) (c5 : decide (anu < 0) = false) (c6 : decide ((1048575 : Int) < anu) = false) (c7 : decide (aab < 0) = false) (c8 : decide ((1048575 : Int) < aab) = false) (hm : ∀ w', Below w.heap.size w w' → Calls Try.prog 41 #[.agg (pj1 ag0 aX0 an0 ac0 ae0 ag1 aX1 an1 ac1 ae1 ag2 aX2 an2 ac2 ae2 ag3 aX3 an3 ac3 ae3)] w' fun en w'' => en = .returned (.int .i64 0) ∧ Below w'.heap.size w' w'') (hd : ∀ w', Below w.heap.size w w' → Calls Try.prog 42 #[.slice aD adn adc] w' fun en w'' => en = .returned (.int .i64 0) ∧ Below w'.heap.size w' w'') (he : ∀ w', Below w.heap.size w w' → Calls Try.prog 43 #[.agg #[.bool aeh, .int .i64 ax1, .int .i64 ax2]] w' fun en w'' => en = .returned (.bool false) ∧ Below w'.heap.size w' w'') : Calls Try.prog 17 #[.agg (pj0 akd afr att aep anu aab ag0 aX0 an0 ac0 ae0 ag1 aX1 an1 ac1 ae1 ag2 aX2 an2 ac2 ae2 ag3 aX3 an3 ac3 ae3 awa aD adn adc aeh ax1 ax2 aL aln alc)] w fun en w' => en = .returned (.int .i64 100) ∧ Below w.heap.size w w' := by
  obtain ⟨V, hV⟩ : ∃ V, V = w.alloc (.cells (pj0 akd afr att aep anu aab ag0 aX0 an0 ac0 ae0 ag1 aX1 an1 ac1 ae1 ag2 aX2 an2 ac2 ae2 ag3 aX3 an3 ac3 ae3 awa aD adn adc aeh ax1 ax2 aL aln alc) 31) := ⟨_, rfl⟩
  have hB : Below w.heap.size w V := by rw [hV]; exact (Below.refl _ _).alloc (Nat.le_refl _) _
  have ka : Blk V w.heap.size 31 (pj0 akd afr att aep anu aab ag0 aX0 an0 ac0 ae0 ag1 aX1 an1 ac1 ae1 ag2 aX2 an2 ac2 ae2 ag3 aX3 an3 ac3 ae3 awa aD adn adc aeh ax1 ax2 aL aln alc) := by rw [hV]; exact Blk.new w _ _
  have a0 : V.cell? ⟨w.heap.size, 0, none⟩ = some (.int .u8 akd) := by rw [ka.cell]; rfl
  have a1 : V.cell? ⟨w.heap.size, 1, none⟩ = some (.int .i64 afr) := by rw [ka.cell]; rfl
  have a2 : V.cell? ⟨w.heap.size, 2, none⟩ = some (.int .i64 att) := by rw [ka.cell]; rfl
  obtain ⟨V2, hV2⟩ : ∃ V2, V2 = V.alloc (.cells #[.int .i64 afr, .int .i64 att] 3) := ⟨_, rfl⟩
  have kn : Blk V2 V.heap.size 3 #[.int .i64 afr, .int .i64 att] := by rw [hV2]; exact Blk.new V _ _
  have kb : Blk V2 w.heap.size 31 (pj0 akd afr att aep anu aab ag0 aX0 an0 ac0 ae0 ag1 aX1 an1 ac1 ae1 ag2 aX2 an2 ac2 ae2 ag3 aX3 an3 ac3 ae3 awa aD adn adc aeh ax1 ax2 aL aln alc) := by rw [hV2]; exact ka.alloc _
  have hB2 : Below w.heap.size w V2 := by rw [hV2]; exact hB.alloc hB.size _
  have hVs : V.heap.size = w.heap.size + 1 := by rw [hV]; simp
  rw [hVs] at kn
  clear hVs
  have hn := node_any (w.heap.size + 1) afr att V2 (by rw [kn.cell]; rfl) (by rw [kn.cell]; rfl)
  have hnb : (!(badN afr || badN att)) = true := by rw [hq.1, hq.2]; rfl
  rw [hnb] at hn
  clear hq hnb kn
  have fhm := fun q : Bw V2.heap.size V2 => Calls.bw (hm q.w (hB2.trans (q.h.mono hB2.size))) (Nat.le_refl _)
  have fhd := fun q : Bw V2.heap.size V2 => Calls.bw (hd q.w (hB2.trans (q.h.mono hB2.size))) (Nat.le_refl _)
  have fhe := fun q : Bw V2.heap.size V2 => Calls.bw (he q.w (hB2.trans (q.h.mono hB2.size))) (Nat.le_refl _)
  have r1 : ∀ q : Bw V2.heap.size V2, q.w.rangeAt w.heap.size 6 [.bool ag0, .slice aX0 an0 ac0, .int .i64 ae0, .bool ag1, .slice aX1 an1 ac1, .int .i64 ae1, .bool ag2, .slice aX2 an2 ac2, .int .i64 ae2, .bool ag3, .slice aX3 an3 ac3, .int .i64 ae3] := fun q => (kb.below q.h kb.lt).range 6 _ rfl
  have s18 : ∀ q : Bw V2.heap.size V2, q.w.cell? ⟨w.heap.size, 18, none⟩ = some (.bool awa) := fun q => (q.h.cell (p := ⟨w.heap.size, 18, none⟩) kb.lt).trans (by rw [kb.cell]; rfl)
  have s19 : ∀ q : Bw V2.heap.size V2, q.w.cell? ⟨w.heap.size, 19, none⟩ = some (.slice aD adn adc) := fun q => (q.h.cell (p := ⟨w.heap.size, 19, none⟩) kb.lt).trans (by rw [kb.cell]; rfl)
  have s20 : ∀ q : Bw V2.heap.size V2, q.w.cell? ⟨w.heap.size, 20, none⟩ = some (.bool aeh) := fun q => (q.h.cell (p := ⟨w.heap.size, 20, none⟩) kb.lt).trans (by rw [kb.cell]; rfl)
  have s21 : ∀ q : Bw V2.heap.size V2, q.w.cell? ⟨w.heap.size, 21, none⟩ = some (.int .i64 ax1) := fun q => (q.h.cell (p := ⟨w.heap.size, 21, none⟩) kb.lt).trans (by rw [kb.cell]; rfl)
  have s22 : ∀ q : Bw V2.heap.size V2, q.w.cell? ⟨w.heap.size, 22, none⟩ = some (.int .i64 ax2) := fun q => (q.h.cell (p := ⟨w.heap.size, 22, none⟩) kb.lt).trans (by rw [kb.cell]; rfl)
  clear hm hd he
  go_enter Try.func17, Try.ntmps17
  go_wp2_with fail
  rw [← hV]
  clear hV
  go_wp2_with fail
  rw [← hV2]
  clear hV2
  refine hn.mono ?_
  rintro en w2 ⟨rfl, rfl⟩
  clear a0 a1 a2 hn
  have a3 : V2.cell? ⟨w.heap.size, 3, none⟩ = some (.int .i64 aep) := by rw [kb.cell]; rfl
  have a4 : V2.cell? ⟨w.heap.size, 4, none⟩ = some (.int .i64 anu) := by rw [kb.cell]; rfl
  have a5 : V2.cell? ⟨w.heap.size, 5, none⟩ = some (.int .i64 aab) := by rw [kb.cell]; rfl
  go_upto_region 3 with (fail)
  clear a3 a4 a5
  refine wp_region_wq V2.heap.size V2 (Below.refl _ _) (by kernel_rfl) (by kernel_rfl) ?_
  repeat (first | (refine WQ.yes (by rfl) (fun K hK => ?_); refine quiet_load_mid 26 _ rfl w.heap.size 6 rfl [.bool ag0, .slice aX0 an0 ac0, .int .i64 ae0, .bool ag1, .slice aX1 an1 ac1, .int .i64 ae1, .bool ag2, .slice aX2 an2 ac2, .int .i64 ae2, .bool ag3, .slice aX3 an3 ac3, .int .i64 ae3] _ r1 Try.underlying26 rfl (by kernel_rfl) (hK _ ?_); clear hK K; simp only [Act.put, lsA, lsZ, lsS]) | (refine WQ.yes (by rfl) (fun K hK => ?_); go_simp; first | (refine hK _ ?_; clear hK K) | (apply Exists.intro; refine ⟨fun _ => ?_, hK _ ?_⟩; (first | exact fhm _ | exact fhd _ | exact fhe _); clear hK K)) | (refine WQ.no (by rfl) ?_; (try simp only [Act.put, lsA, lsZ, lsS])))
  refine WQ.nil ?_
  intro pq
  have hpB := hB2.trans (pq.h.mono hB2.size)
  clear r1 s18 s19 s20 s21 s22 fhm fhd fhe
  go_wp2
  go_ret
  exact ⟨rfl, hpB⟩
set_option maxRecDepth 100000 in
set_option maxHeartbeats 16000000 in
theorem ckt3 {akd afr att aep anu aab : Int} {ag0 : Bool} {aX0 : Option Addr} {an0 ac0 : Nat} {ae0 : Int} {ag1 : Bool} {aX1 : Option Addr} {an1 ac1 : Nat} {ae1 : Int} {ag2 : Bool} {aX2 : Option Addr} {an2 ac2 : Nat} {ae2 : Int} {ag3 : Bool} {aX3 : Option Addr} {an3 ac3 : Nat} {ae3 : Int} {awa : Bool} {aD : Option Addr} {adn adc : Nat} {aeh : Bool} {ax1 ax2 : Int} {aL : Option Addr} {aln alc : Nat} (w : World) (c0 : decide (akd < 1) = false) (c1 : decide ((6 : Int) < akd) = false) (hq : badN afr = false ∧ badN att = false) (c3 : decide (aep < 0) = false) (c4 : decide ((65535 : Int) < aep) = false) (c5 : decide (anu < 0) = false) (c6 : decide ((1048575 : Int) < anu) = false) (c7 : decide (aab < 0) = false) (c8 : decide ((1048575 : Int) < aab) = false) (hm : ∀ w', Below w.heap.size w w' → Calls Try.prog 41 #[.agg (pj1 ag0 aX0 an0 ac0 ae0 ag1 aX1 an1 ac1 ae1 ag2 aX2 an2 ac2 ae2 ag3 aX3 an3 ac3 ae3)] w' fun en w'' => en = .returned (.int .i64 0) ∧ Below w'.heap.size w' w'') (hd : ∀ w', Below w.heap.size w w' → Calls Try.prog 42 #[.slice aD adn adc] w' fun en w'' => en = .returned (.int .i64 0) ∧ Below w'.heap.size w' w'') (he : ∀ w', Below w.heap.size w w' → Calls Try.prog 43 #[.agg #[.bool aeh, .int .i64 ax1, .int .i64 ax2]] w' fun en w'' => en = .returned (.bool true) ∧ Below w'.heap.size w' w'') (hl : ∀ w', Below w.heap.size w w' → Calls Try.prog 44 #[.slice aL aln alc] w' fun en w'' => en = .returned (.bool false) ∧ Below w'.heap.size w' w'') : Calls Try.prog 17 #[.agg (pj0 akd afr att aep anu aab ag0 aX0 an0 ac0 ae0 ag1 aX1 an1 ac1 ae1 ag2 aX2 an2 ac2 ae2 ag3 aX3 an3 ac3 ae3 awa aD adn adc aeh ax1 ax2 aL aln alc)] w fun en w' => en = .returned (.int .i64 100) ∧ Below w.heap.size w w' := by
  obtain ⟨V, hV⟩ : ∃ V, V = w.alloc (.cells (pj0 akd afr att aep anu aab ag0 aX0 an0 ac0 ae0 ag1 aX1 an1 ac1 ae1 ag2 aX2 an2 ac2 ae2 ag3 aX3 an3 ac3 ae3 awa aD adn adc aeh ax1 ax2 aL aln alc) 31) := ⟨_, rfl⟩
  have hB : Below w.heap.size w V := by rw [hV]; exact (Below.refl _ _).alloc (Nat.le_refl _) _
  have ka : Blk V w.heap.size 31 (pj0 akd afr att aep anu aab ag0 aX0 an0 ac0 ae0 ag1 aX1 an1 ac1 ae1 ag2 aX2 an2 ac2 ae2 ag3 aX3 an3 ac3 ae3 awa aD adn adc aeh ax1 ax2 aL aln alc) := by rw [hV]; exact Blk.new w _ _
  have a0 : V.cell? ⟨w.heap.size, 0, none⟩ = some (.int .u8 akd) := by rw [ka.cell]; rfl
  have a1 : V.cell? ⟨w.heap.size, 1, none⟩ = some (.int .i64 afr) := by rw [ka.cell]; rfl
  have a2 : V.cell? ⟨w.heap.size, 2, none⟩ = some (.int .i64 att) := by rw [ka.cell]; rfl
  obtain ⟨V2, hV2⟩ : ∃ V2, V2 = V.alloc (.cells #[.int .i64 afr, .int .i64 att] 3) := ⟨_, rfl⟩
  have kn : Blk V2 V.heap.size 3 #[.int .i64 afr, .int .i64 att] := by rw [hV2]; exact Blk.new V _ _
  have kb : Blk V2 w.heap.size 31 (pj0 akd afr att aep anu aab ag0 aX0 an0 ac0 ae0 ag1 aX1 an1 ac1 ae1 ag2 aX2 an2 ac2 ae2 ag3 aX3 an3 ac3 ae3 awa aD adn adc aeh ax1 ax2 aL aln alc) := by rw [hV2]; exact ka.alloc _
  have hB2 : Below w.heap.size w V2 := by rw [hV2]; exact hB.alloc hB.size _
  have hVs : V.heap.size = w.heap.size + 1 := by rw [hV]; simp
  rw [hVs] at kn
  clear hVs
  have hn := node_any (w.heap.size + 1) afr att V2 (by rw [kn.cell]; rfl) (by rw [kn.cell]; rfl)
  have hnb : (!(badN afr || badN att)) = true := by rw [hq.1, hq.2]; rfl
  rw [hnb] at hn
  clear hq hnb kn
  have fhm := fun q : Bw V2.heap.size V2 => Calls.bw (hm q.w (hB2.trans (q.h.mono hB2.size))) (Nat.le_refl _)
  have fhd := fun q : Bw V2.heap.size V2 => Calls.bw (hd q.w (hB2.trans (q.h.mono hB2.size))) (Nat.le_refl _)
  have fhe := fun q : Bw V2.heap.size V2 => Calls.bw (he q.w (hB2.trans (q.h.mono hB2.size))) (Nat.le_refl _)
  have fhl := fun q : Bw V2.heap.size V2 => Calls.bw (hl q.w (hB2.trans (q.h.mono hB2.size))) (Nat.le_refl _)
  have r1 : ∀ q : Bw V2.heap.size V2, q.w.rangeAt w.heap.size 6 [.bool ag0, .slice aX0 an0 ac0, .int .i64 ae0, .bool ag1, .slice aX1 an1 ac1, .int .i64 ae1, .bool ag2, .slice aX2 an2 ac2, .int .i64 ae2, .bool ag3, .slice aX3 an3 ac3, .int .i64 ae3] := fun q => (kb.below q.h kb.lt).range 6 _ rfl
  have s18 : ∀ q : Bw V2.heap.size V2, q.w.cell? ⟨w.heap.size, 18, none⟩ = some (.bool awa) := fun q => (q.h.cell (p := ⟨w.heap.size, 18, none⟩) kb.lt).trans (by rw [kb.cell]; rfl)
  have s19 : ∀ q : Bw V2.heap.size V2, q.w.cell? ⟨w.heap.size, 19, none⟩ = some (.slice aD adn adc) := fun q => (q.h.cell (p := ⟨w.heap.size, 19, none⟩) kb.lt).trans (by rw [kb.cell]; rfl)
  have s20 : ∀ q : Bw V2.heap.size V2, q.w.cell? ⟨w.heap.size, 20, none⟩ = some (.bool aeh) := fun q => (q.h.cell (p := ⟨w.heap.size, 20, none⟩) kb.lt).trans (by rw [kb.cell]; rfl)
  have s21 : ∀ q : Bw V2.heap.size V2, q.w.cell? ⟨w.heap.size, 21, none⟩ = some (.int .i64 ax1) := fun q => (q.h.cell (p := ⟨w.heap.size, 21, none⟩) kb.lt).trans (by rw [kb.cell]; rfl)
  have s22 : ∀ q : Bw V2.heap.size V2, q.w.cell? ⟨w.heap.size, 22, none⟩ = some (.int .i64 ax2) := fun q => (q.h.cell (p := ⟨w.heap.size, 22, none⟩) kb.lt).trans (by rw [kb.cell]; rfl)
  have s23 : ∀ q : Bw V2.heap.size V2, q.w.cell? ⟨w.heap.size, 23, none⟩ = some (.slice aL aln alc) := fun q => (q.h.cell (p := ⟨w.heap.size, 23, none⟩) kb.lt).trans (by rw [kb.cell]; rfl)
  clear hm hd he hl
  go_enter Try.func17, Try.ntmps17
  go_wp2_with fail
  rw [← hV]
  clear hV
  go_wp2_with fail
  rw [← hV2]
  clear hV2
  refine hn.mono ?_
  rintro en w2 ⟨rfl, rfl⟩
  clear a0 a1 a2 hn
  have a3 : V2.cell? ⟨w.heap.size, 3, none⟩ = some (.int .i64 aep) := by rw [kb.cell]; rfl
  have a4 : V2.cell? ⟨w.heap.size, 4, none⟩ = some (.int .i64 anu) := by rw [kb.cell]; rfl
  have a5 : V2.cell? ⟨w.heap.size, 5, none⟩ = some (.int .i64 aab) := by rw [kb.cell]; rfl
  go_upto_region 3 with (fail)
  clear a3 a4 a5
  refine wp_region_wq V2.heap.size V2 (Below.refl _ _) (by kernel_rfl) (by kernel_rfl) ?_
  repeat (first | (refine WQ.yes (by rfl) (fun K hK => ?_); refine quiet_load_mid 26 _ rfl w.heap.size 6 rfl [.bool ag0, .slice aX0 an0 ac0, .int .i64 ae0, .bool ag1, .slice aX1 an1 ac1, .int .i64 ae1, .bool ag2, .slice aX2 an2 ac2, .int .i64 ae2, .bool ag3, .slice aX3 an3 ac3, .int .i64 ae3] _ r1 Try.underlying26 rfl (by kernel_rfl) (hK _ ?_); clear hK K; simp only [Act.put, lsA, lsZ, lsS]) | (refine WQ.yes (by rfl) (fun K hK => ?_); go_simp; first | (refine hK _ ?_; clear hK K) | (apply Exists.intro; refine ⟨fun _ => ?_, hK _ ?_⟩; (first | exact fhm _ | exact fhd _ | exact fhe _ | exact fhl _); clear hK K)) | (refine WQ.no (by rfl) ?_; (try simp only [Act.put, lsA, lsZ, lsS])))
  refine WQ.nil ?_
  intro pq
  have hpB := hB2.trans (pq.h.mono hB2.size)
  clear r1 s18 s19 s20 s21 s22 s23 fhm fhd fhe fhl
  go_wp2
  go_ret
  exact ⟨rfl, hpB⟩
set_option maxRecDepth 100000 in
set_option maxHeartbeats 16000000 in
theorem ckt4 {akd afr att aep anu aab : Int} {ag0 : Bool} {aX0 : Option Addr} {an0 ac0 : Nat} {ae0 : Int} {ag1 : Bool} {aX1 : Option Addr} {an1 ac1 : Nat} {ae1 : Int} {ag2 : Bool} {aX2 : Option Addr} {an2 ac2 : Nat} {ae2 : Int} {ag3 : Bool} {aX3 : Option Addr} {an3 ac3 : Nat} {ae3 : Int} {awa : Bool} {aD : Option Addr} {adn adc : Nat} {aeh : Bool} {ax1 ax2 : Int} {aL : Option Addr} {aln alc : Nat} (w : World) (c0 : decide (akd < 1) = false) (c1 : decide ((6 : Int) < akd) = false) (hq : badN afr = false ∧ badN att = false) (c3 : decide (aep < 0) = false) (c4 : decide ((65535 : Int) < aep) = false) (c5 : decide (anu < 0) = false) (c6 : decide ((1048575 : Int) < anu) = false) (c7 : decide (aab < 0) = false) (c8 : decide ((1048575 : Int) < aab) = false) (hm : ∀ w', Below w.heap.size w w' → Calls Try.prog 41 #[.agg (pj1 ag0 aX0 an0 ac0 ae0 ag1 aX1 an1 ac1 ae1 ag2 aX2 an2 ac2 ae2 ag3 aX3 an3 ac3 ae3)] w' fun en w'' => en = .returned (.int .i64 0) ∧ Below w'.heap.size w' w'') (hd : ∀ w', Below w.heap.size w w' → Calls Try.prog 42 #[.slice aD adn adc] w' fun en w'' => en = .returned (.int .i64 0) ∧ Below w'.heap.size w' w'') (he : ∀ w', Below w.heap.size w w' → Calls Try.prog 43 #[.agg #[.bool aeh, .int .i64 ax1, .int .i64 ax2]] w' fun en w'' => en = .returned (.bool true) ∧ Below w'.heap.size w' w'') (hl : ∀ w', Below w.heap.size w w' → Calls Try.prog 44 #[.slice aL aln alc] w' fun en w'' => en = .returned (.bool true) ∧ Below w'.heap.size w' w'') (U : Array Value) (Q : Bool) (E : Int) (hE : (if Q = true then 0 else 100) = E) (hu : ∀ w', Below w.heap.size w w' → Calls Try.prog 45 #[.agg (pj0 akd afr att aep anu aab ag0 aX0 an0 ac0 ae0 ag1 aX1 an1 ac1 ae1 ag2 aX2 an2 ac2 ae2 ag3 aX3 an3 ac3 ae3 awa aD adn adc aeh ax1 ax2 aL aln alc)] w' fun en w'' => en = .returned (.agg U) ∧ Below w'.heap.size w' w'') (hs : ∀ w', Below w.heap.size w w' → Calls Try.prog 11 #[.agg (pj0 akd afr att aep anu aab ag0 aX0 an0 ac0 ae0 ag1 aX1 an1 ac1 ae1 ag2 aX2 an2 ac2 ae2 ag3 aX3 an3 ac3 ae3 awa aD adn adc aeh ax1 ax2 aL aln alc), .agg U] w' fun en w'' => en = .returned (.bool Q) ∧ Below w'.heap.size w' w'') : Calls Try.prog 17 #[.agg (pj0 akd afr att aep anu aab ag0 aX0 an0 ac0 ae0 ag1 aX1 an1 ac1 ae1 ag2 aX2 an2 ac2 ae2 ag3 aX3 an3 ac3 ae3 awa aD adn adc aeh ax1 ax2 aL aln alc)] w fun en w' => en = .returned (.int .i64 E) ∧ Below w.heap.size w w' := by
  obtain ⟨V, hV⟩ : ∃ V, V = w.alloc (.cells (pj0 akd afr att aep anu aab ag0 aX0 an0 ac0 ae0 ag1 aX1 an1 ac1 ae1 ag2 aX2 an2 ac2 ae2 ag3 aX3 an3 ac3 ae3 awa aD adn adc aeh ax1 ax2 aL aln alc) 31) := ⟨_, rfl⟩
  have hB : Below w.heap.size w V := by rw [hV]; exact (Below.refl _ _).alloc (Nat.le_refl _) _
  have ka : Blk V w.heap.size 31 (pj0 akd afr att aep anu aab ag0 aX0 an0 ac0 ae0 ag1 aX1 an1 ac1 ae1 ag2 aX2 an2 ac2 ae2 ag3 aX3 an3 ac3 ae3 awa aD adn adc aeh ax1 ax2 aL aln alc) := by rw [hV]; exact Blk.new w _ _
  have a0 : V.cell? ⟨w.heap.size, 0, none⟩ = some (.int .u8 akd) := by rw [ka.cell]; rfl
  have a1 : V.cell? ⟨w.heap.size, 1, none⟩ = some (.int .i64 afr) := by rw [ka.cell]; rfl
  have a2 : V.cell? ⟨w.heap.size, 2, none⟩ = some (.int .i64 att) := by rw [ka.cell]; rfl
  obtain ⟨V2, hV2⟩ : ∃ V2, V2 = V.alloc (.cells #[.int .i64 afr, .int .i64 att] 3) := ⟨_, rfl⟩
  have kn : Blk V2 V.heap.size 3 #[.int .i64 afr, .int .i64 att] := by rw [hV2]; exact Blk.new V _ _
  have kb : Blk V2 w.heap.size 31 (pj0 akd afr att aep anu aab ag0 aX0 an0 ac0 ae0 ag1 aX1 an1 ac1 ae1 ag2 aX2 an2 ac2 ae2 ag3 aX3 an3 ac3 ae3 awa aD adn adc aeh ax1 ax2 aL aln alc) := by rw [hV2]; exact ka.alloc _
  have hB2 : Below w.heap.size w V2 := by rw [hV2]; exact hB.alloc hB.size _
  have hVs : V.heap.size = w.heap.size + 1 := by rw [hV]; simp
  rw [hVs] at kn
  clear hVs
  have hn := node_any (w.heap.size + 1) afr att V2 (by rw [kn.cell]; rfl) (by rw [kn.cell]; rfl)
  have hnb : (!(badN afr || badN att)) = true := by rw [hq.1, hq.2]; rfl
  rw [hnb] at hn
  clear hq hnb kn
  have fhm := fun q : Bw V2.heap.size V2 => Calls.bw (hm q.w (hB2.trans (q.h.mono hB2.size))) (Nat.le_refl _)
  have fhd := fun q : Bw V2.heap.size V2 => Calls.bw (hd q.w (hB2.trans (q.h.mono hB2.size))) (Nat.le_refl _)
  have fhe := fun q : Bw V2.heap.size V2 => Calls.bw (he q.w (hB2.trans (q.h.mono hB2.size))) (Nat.le_refl _)
  have fhl := fun q : Bw V2.heap.size V2 => Calls.bw (hl q.w (hB2.trans (q.h.mono hB2.size))) (Nat.le_refl _)
  have fhu := fun q : Bw V2.heap.size V2 => Calls.bw (hu q.w (hB2.trans (q.h.mono hB2.size))) (Nat.le_refl _)
  have fhs := fun q : Bw V2.heap.size V2 => Calls.bw (hs q.w (hB2.trans (q.h.mono hB2.size))) (Nat.le_refl _)
  have r1 : ∀ q : Bw V2.heap.size V2, q.w.rangeAt w.heap.size 6 [.bool ag0, .slice aX0 an0 ac0, .int .i64 ae0, .bool ag1, .slice aX1 an1 ac1, .int .i64 ae1, .bool ag2, .slice aX2 an2 ac2, .int .i64 ae2, .bool ag3, .slice aX3 an3 ac3, .int .i64 ae3] := fun q => (kb.below q.h kb.lt).range 6 _ rfl
  have r2 : ∀ q : Bw V2.heap.size V2, q.w.rangeAt w.heap.size 0 [.int .u8 akd, .int .i64 afr, .int .i64 att, .int .i64 aep, .int .i64 anu, .int .i64 aab, .bool ag0, .slice aX0 an0 ac0, .int .i64 ae0, .bool ag1, .slice aX1 an1 ac1, .int .i64 ae1, .bool ag2, .slice aX2 an2 ac2, .int .i64 ae2, .bool ag3, .slice aX3 an3 ac3, .int .i64 ae3, .bool awa, .slice aD adn adc, .bool aeh, .int .i64 ax1, .int .i64 ax2, .slice aL aln alc] := fun q => (kb.below q.h kb.lt).range 0 _ rfl
  have s18 : ∀ q : Bw V2.heap.size V2, q.w.cell? ⟨w.heap.size, 18, none⟩ = some (.bool awa) := fun q => (q.h.cell (p := ⟨w.heap.size, 18, none⟩) kb.lt).trans (by rw [kb.cell]; rfl)
  have s19 : ∀ q : Bw V2.heap.size V2, q.w.cell? ⟨w.heap.size, 19, none⟩ = some (.slice aD adn adc) := fun q => (q.h.cell (p := ⟨w.heap.size, 19, none⟩) kb.lt).trans (by rw [kb.cell]; rfl)
  have s20 : ∀ q : Bw V2.heap.size V2, q.w.cell? ⟨w.heap.size, 20, none⟩ = some (.bool aeh) := fun q => (q.h.cell (p := ⟨w.heap.size, 20, none⟩) kb.lt).trans (by rw [kb.cell]; rfl)
  have s21 : ∀ q : Bw V2.heap.size V2, q.w.cell? ⟨w.heap.size, 21, none⟩ = some (.int .i64 ax1) := fun q => (q.h.cell (p := ⟨w.heap.size, 21, none⟩) kb.lt).trans (by rw [kb.cell]; rfl)
  have s22 : ∀ q : Bw V2.heap.size V2, q.w.cell? ⟨w.heap.size, 22, none⟩ = some (.int .i64 ax2) := fun q => (q.h.cell (p := ⟨w.heap.size, 22, none⟩) kb.lt).trans (by rw [kb.cell]; rfl)
  have s23 : ∀ q : Bw V2.heap.size V2, q.w.cell? ⟨w.heap.size, 23, none⟩ = some (.slice aL aln alc) := fun q => (q.h.cell (p := ⟨w.heap.size, 23, none⟩) kb.lt).trans (by rw [kb.cell]; rfl)
  clear hm hd he hl hu hs
  go_enter Try.func17, Try.ntmps17
  go_wp2_with fail
  rw [← hV]
  clear hV
  go_wp2_with fail
  rw [← hV2]
  clear hV2
  refine hn.mono ?_
  rintro en w2 ⟨rfl, rfl⟩
  clear a0 a1 a2 hn
  have a3 : V2.cell? ⟨w.heap.size, 3, none⟩ = some (.int .i64 aep) := by rw [kb.cell]; rfl
  have a4 : V2.cell? ⟨w.heap.size, 4, none⟩ = some (.int .i64 anu) := by rw [kb.cell]; rfl
  have a5 : V2.cell? ⟨w.heap.size, 5, none⟩ = some (.int .i64 aab) := by rw [kb.cell]; rfl
  go_upto_region 3 with (fail)
  clear a3 a4 a5
  refine wp_region_wq V2.heap.size V2 (Below.refl _ _) (by kernel_rfl) (by kernel_rfl) ?_
  repeat (first | (refine WQ.yes (by rfl) (fun K hK => ?_); refine quiet_load_mid 26 _ rfl w.heap.size 6 rfl [.bool ag0, .slice aX0 an0 ac0, .int .i64 ae0, .bool ag1, .slice aX1 an1 ac1, .int .i64 ae1, .bool ag2, .slice aX2 an2 ac2, .int .i64 ae2, .bool ag3, .slice aX3 an3 ac3, .int .i64 ae3] _ r1 Try.underlying26 rfl (by kernel_rfl) (hK _ ?_); clear hK K; simp only [Act.put, lsA, lsZ, lsS]) | (refine WQ.yes (by rfl) (fun K hK => ?_); refine quiet_load_mid 31 _ rfl w.heap.size 0 rfl [.int .u8 akd, .int .i64 afr, .int .i64 att, .int .i64 aep, .int .i64 anu, .int .i64 aab, .bool ag0, .slice aX0 an0 ac0, .int .i64 ae0, .bool ag1, .slice aX1 an1 ac1, .int .i64 ae1, .bool ag2, .slice aX2 an2 ac2, .int .i64 ae2, .bool ag3, .slice aX3 an3 ac3, .int .i64 ae3, .bool awa, .slice aD adn adc, .bool aeh, .int .i64 ax1, .int .i64 ax2, .slice aL aln alc] _ r2 Try.underlying31 rfl (by kernel_rfl) (hK _ ?_); clear hK K; simp only [Act.put, lsA, lsZ, lsS]) | (refine WQ.yes (by rfl) (fun K hK => ?_); go_simp; first | (refine hK _ ?_; clear hK K) | (apply Exists.intro; refine ⟨fun _ => ?_, hK _ ?_⟩; (first | exact fhm _ | exact fhd _ | exact fhe _ | exact fhl _ | exact fhu _ | exact fhs _); clear hK K)) | (refine WQ.no (by rfl) ?_; (try simp only [Act.put, lsA, lsZ, lsS])))
  refine WQ.nil ?_
  intro pq
  have hpB := hB2.trans (pq.h.mono hB2.size)
  clear r1 r2 s18 s19 s20 s21 s22 s23 fhm fhd fhe fhl fhu fhs
  cases Q
  · obtain rfl : (100 : Int) = E := hE
    go_wp2
    go_ret
    exact ⟨rfl, hpB⟩
  · obtain rfl : (0 : Int) = E := hE
    go_wp2
    go_ret
    exact ⟨rfl, hpB⟩
end Go.Proofs.Ytjmhefkmpfkpbaa
namespace Go.Proofs.Ytjmhefkmpfkpbaa
open Go.ChangeShapes Go.WideShapes Go.ChangeAt Go.RowKit
set_option linter.unusedSimpArgs false
set_option linter.unusedVariables false
def zd : Dy := ⟨false, [], 0⟩
/-- What a mail's kind uses, and nothing else. -/
def usedL (m : Ml) : Ml :=
  if m.kd = 1 then ⟨m.kd, m.fr, m.tt, m.ep, m.nu, 0, ⟨m.give.s, m.give.w, zd, zd⟩, false, [], false, 0, 0, []⟩
  else if m.kd = 2 then ⟨m.kd, m.fr, m.tt, m.ep, m.nu, 0, ⟨zd, zd, m.give.c, m.give.a⟩, false, [], false, 0, 0, []⟩
  else if m.kd = 3 then ⟨m.kd, m.fr, m.tt, m.ep, m.nu, m.ab, ⟨zd, zd, m.give.c, m.give.a⟩, false, [], false, 0, 0, []⟩
  else if m.kd = 4 then ⟨m.kd, m.fr, m.tt, m.ep, m.nu, m.ab, ⟨zd, zd, zd, zd⟩, false, [], false, 0, 0, []⟩
  else if m.kd = 5 then ⟨m.kd, m.fr, m.tt, m.ep, m.nu, 0, ⟨zd, zd, zd, zd⟩, m.wa, m.ds, false, 0, 0, []⟩
  else ⟨m.kd, m.fr, m.tt, m.ep, m.nu, 0, ⟨zd, zd, zd, zd⟩, false, [], m.eh, m.e1, m.e2, m.ls⟩
def numL (m : Ml) : Prop := 1 ≤ m.kd ∧ m.kd ≤ 6 ∧ (badN m.fr = false ∧ badN m.tt = false) ∧ 0 ≤ m.ep ∧ m.ep ≤ 65535 ∧ 0 ≤ m.nu ∧ m.nu ≤ 1048575 ∧ 0 ≤ m.ab ∧ m.ab ≤ 1048575
/-- May a mail be? -/
def okL (m : Ml) : Prop := numL m ∧ mayM m.give = true ∧ chkD m.ds = 0 ∧ mayE m.eh m.e1 m.e2 = true ∧ (rises m.ls ∧ m.ls.length ≤ 8) ∧ m = usedL m
theorem rdD_zd (w : World) (B : Nat) : RdD w B false none 0 0 0 zd := ⟨rfl, rfl, rfl, Nat.le_refl _, Reads.none_⟩
theorem usedO (o : MO) (h : smL o.x) (hk : 1 ≤ o.x.kd ∧ o.x.kd ≤ 6) (w : World) (hr : rdL w w.heap.size o) : ∃ o' : MO, o'.x = usedL o.x ∧ smL o'.x ∧ ∃ U, aggL o' = .agg U ∧ (∀ w', Below w.heap.size w w' → rdL w' w'.heap.size o' ∧ Calls Try.prog 45 #[aggL o] w' fun en w'' => en = .returned (.agg U) ∧ Below w'.heap.size w' w'') := by
  obtain ⟨hm, hd, hl⟩ := h
  have hc : o.x.kd = 1 ∨ o.x.kd = 2 ∨ o.x.kd = 3 ∨ o.x.kd = 4 ∨ o.x.kd = 5 ∨ o.x.kd = 6 := by omega
  obtain ⟨x, X0, c0, X1, c1, X2, c2, X3, c3, D, dc, L, lc⟩ := o
  obtain ⟨kd, fr, tt, ep, nu, ab, give, wa, ds, eh, e1, e2, ls⟩ := x
  obtain ⟨gs, gw, gc, ga⟩ := give
  simp only at hc hm hd hl
  rcases hc with rfl | rfl | rfl | rfl | rfl | rfl
  · refine ⟨⟨⟨1, fr, tt, ep, nu, 0, ⟨gs, gw, zd, zd⟩, false, [], false, 0, 0, []⟩, X0, c0, X1, c1, none, 0, none, 0, none, 0, none, 0⟩, rfl, ⟨⟨hm.1, hm.2.1, Nat.zero_le _, Nat.zero_le _⟩, Nat.zero_le _, Nat.zero_le _⟩, _, rfl, fun w' hw => ?_⟩
    have r := hr.below hw hw.size
    exact ⟨⟨⟨r.1.1, r.1.2.1, rdD_zd _ _, rdD_zd _ _⟩, Tms.none_, Reads.none_⟩, used1 w'⟩
  · refine ⟨⟨⟨2, fr, tt, ep, nu, 0, ⟨zd, zd, gc, ga⟩, false, [], false, 0, 0, []⟩, none, 0, none, 0, X2, c2, X3, c3, none, 0, none, 0⟩, rfl, ⟨⟨Nat.zero_le _, Nat.zero_le _, hm.2.2.1, hm.2.2.2⟩, Nat.zero_le _, Nat.zero_le _⟩, _, rfl, fun w' hw => ?_⟩
    have r := hr.below hw hw.size
    exact ⟨⟨⟨rdD_zd _ _, rdD_zd _ _, r.1.2.2.1, r.1.2.2.2⟩, Tms.none_, Reads.none_⟩, used2 w'⟩
  · refine ⟨⟨⟨3, fr, tt, ep, nu, ab, ⟨zd, zd, gc, ga⟩, false, [], false, 0, 0, []⟩, none, 0, none, 0, X2, c2, X3, c3, none, 0, none, 0⟩, rfl, ⟨⟨Nat.zero_le _, Nat.zero_le _, hm.2.2.1, hm.2.2.2⟩, Nat.zero_le _, Nat.zero_le _⟩, _, rfl, fun w' hw => ?_⟩
    have r := hr.below hw hw.size
    exact ⟨⟨⟨rdD_zd _ _, rdD_zd _ _, r.1.2.2.1, r.1.2.2.2⟩, Tms.none_, Reads.none_⟩, used3 w'⟩
  · refine ⟨⟨⟨4, fr, tt, ep, nu, ab, ⟨zd, zd, zd, zd⟩, false, [], false, 0, 0, []⟩, none, 0, none, 0, none, 0, none, 0, none, 0, none, 0⟩, rfl, ⟨⟨Nat.zero_le _, Nat.zero_le _, Nat.zero_le _, Nat.zero_le _⟩, Nat.zero_le _, Nat.zero_le _⟩, _, rfl, fun w' hw => ?_⟩
    have r := hr.below hw hw.size
    exact ⟨⟨⟨rdD_zd _ _, rdD_zd _ _, rdD_zd _ _, rdD_zd _ _⟩, Tms.none_, Reads.none_⟩, used4 w'⟩
  · refine ⟨⟨⟨5, fr, tt, ep, nu, 0, ⟨zd, zd, zd, zd⟩, wa, ds, false, 0, 0, []⟩, none, 0, none, 0, none, 0, none, 0, D, dc, none, 0⟩, rfl, ⟨⟨Nat.zero_le _, Nat.zero_le _, Nat.zero_le _, Nat.zero_le _⟩, hd, Nat.zero_le _⟩, _, rfl, fun w' hw => ?_⟩
    have r := hr.below hw hw.size
    exact ⟨⟨⟨rdD_zd _ _, rdD_zd _ _, rdD_zd _ _, rdD_zd _ _⟩, r.2.1, Reads.none_⟩, used5 w'⟩
  · refine ⟨⟨⟨6, fr, tt, ep, nu, 0, ⟨zd, zd, zd, zd⟩, false, [], eh, e1, e2, ls⟩, none, 0, none, 0, none, 0, none, 0, none, 0, L, lc⟩, rfl, ⟨⟨Nat.zero_le _, Nat.zero_le _, Nat.zero_le _, Nat.zero_le _⟩, Nat.zero_le _, hl⟩, _, rfl, fun w' hw => ?_⟩
    have r := hr.below hw hw.size
    exact ⟨⟨⟨rdD_zd _ _, rdD_zd _ _, rdD_zd _ _, rdD_zd _ _⟩, Tms.none_, r.2.2⟩, used6 w'⟩
theorem check_any (o : MO) (h : smL o.x) (w : World) (hr : rdL w w.heap.size o) : Calls Try.prog 17 #[aggL o] w fun en w' => ∃ E, en = .returned (.int .i64 E) ∧ ((okL o.x ∧ E = 0) ∨ (¬ okL o.x ∧ E = 100)) ∧ Below w.heap.size w w' := by
  have no : ∀ {en : Ending} {w' : World}, ¬ okL o.x → (en = .returned (.int .i64 100) ∧ Below w.heap.size w w') → ∃ E, en = .returned (.int .i64 E) ∧ ((okL o.x ∧ E = 0) ∨ (¬ okL o.x ∧ E = 100)) ∧ Below w.heap.size w w' := fun h hh => ⟨100, hh.1, .inr ⟨h, rfl⟩, hh.2⟩
  have nn : ∀ P : Prop, (numL o.x → P) → ¬ P → ¬ okL o.x := fun P h1 h2 h3 => h2 (h1 h3.1)
  by_cases n0 : o.x.kd < 1
  · exact (ckn0 w (decide_eq_true n0)).mono fun en w' => no (fun hh => by have := hh.1.1; omega)
  have c0 := decide_eq_false n0
  by_cases n1 : (6 : Int) < o.x.kd
  · exact (ckn1 w c0 (decide_eq_true n1)).mono fun en w' => no (fun hh => by have := hh.1.2.1; omega)
  have c1 := decide_eq_false n1
  by_cases n2 : badN o.x.fr = false ∧ badN o.x.tt = false
  rotate_left
  · exact (ckn2 w c0 c1 (by
      cases e : badN o.x.fr
      · cases e2 : badN o.x.tt
        · exact absurd ⟨e, e2⟩ n2
        · exact .inr rfl
      · exact .inl rfl)).mono fun en w' => no (fun hh => n2 hh.1.2.2.1)
  by_cases n3 : o.x.ep < 0
  · exact (ckn3 w c0 c1 n2 (decide_eq_true n3)).mono fun en w' => no (fun hh => by have := hh.1.2.2.2; omega)
  have c3 := decide_eq_false n3
  by_cases n4 : (65535 : Int) < o.x.ep
  · exact (ckn4 w c0 c1 n2 c3 (decide_eq_true n4)).mono fun en w' => no (fun hh => by have := hh.1.2.2.2; omega)
  have c4 := decide_eq_false n4
  by_cases n5 : o.x.nu < 0
  · exact (ckn5 w c0 c1 n2 c3 c4 (decide_eq_true n5)).mono fun en w' => no (fun hh => by have := hh.1.2.2.2; omega)
  have c5 := decide_eq_false n5
  by_cases n6 : (1048575 : Int) < o.x.nu
  · exact (ckn6 w c0 c1 n2 c3 c4 c5 (decide_eq_true n6)).mono fun en w' => no (fun hh => by have := hh.1.2.2.2; omega)
  have c6 := decide_eq_false n6
  by_cases n7 : o.x.ab < 0
  · exact (ckn7 w c0 c1 n2 c3 c4 c5 c6 (decide_eq_true n7)).mono fun en w' => no (fun hh => by have := hh.1.2.2.2; omega)
  have c7 := decide_eq_false n7
  by_cases n8 : (1048575 : Int) < o.x.ab
  · exact (ckn8 w c0 c1 n2 c3 c4 c5 c6 c7 (decide_eq_true n8)).mono fun en w' => no (fun hh => by have := hh.1.2.2.2; omega)
  have c8 := decide_eq_false n8
  have hnum : numL o.x := ⟨by omega, by omega, n2, by omega, by omega, by omega, by omega, by omega, by omega⟩
  have cm := fun (Q : Bool) (hQ : mayM o.x.give = Q) w' (hw : Below w.heap.size w w') => mcheck_any o.x.give.s.neg o.X0 o.x.give.s.ls.length o.c0 o.x.give.s.ex o.x.give.w.neg o.X1 o.x.give.w.ls.length o.c1 o.x.give.w.ex o.x.give.c.neg o.X2 o.x.give.c.ls.length o.c2 o.x.give.c.ex o.x.give.a.neg o.X3 o.x.give.a.ls.length o.c3 o.x.give.a.ex o.x.give w' (hr.below hw hw.size).1 Q hQ
  by_cases hm : mayM o.x.give = true
  rotate_left
  · exact (ckt0 w c0 c1 n2 c3 c4 c5 c6 c7 c8 (fun w' hw => by simpa using cm false (by simpa using hm) w' hw)).mono fun en w' => no (fun hh => hm hh.2.1)
  have Cm := fun w' hw => (by simpa using cm true hm w' hw : Calls Try.prog 41 _ w' fun en w'' => en = .returned (.int .i64 0) ∧ Below w'.heap.size w' w'')
  have cd := fun w' (hw : Below w.heap.size w w') => dscheck_any o.D o.x.ds.length o.dc o.x.ds h.2.1 w' (hr.below hw hw.size).2.1 _ rfl
  by_cases hd : chkD o.x.ds = 0
  rotate_left
  · exact (ckt1 w c0 c1 n2 c3 c4 c5 c6 c7 c8 Cm (chkD o.x.ds) (by simpa using hd) cd).mono fun en w' => no (fun hh => hd hh.2.2.1)
  rw [hd] at cd
  have ce := fun w' (_ : Below w.heap.size w w') => edge_any o.x.eh o.x.e1 o.x.e2 w' _ rfl
  by_cases he : mayE o.x.eh o.x.e1 o.x.e2 = true
  rotate_left
  · rw [show mayE o.x.eh o.x.e1 o.x.e2 = false by simpa using he] at ce
    exact (ckt2 w c0 c1 n2 c3 c4 c5 c6 c7 c8 Cm cd ce).mono fun en w' => no (fun hh => he hh.2.2.2.1)
  rw [he] at ce
  have cl := fun w' (hw : Below w.heap.size w w') => least_any o.L o.x.ls.length o.lc _ o.x.ls rfl h.2.2 w' (hr.below hw hw.size).2.2
  by_cases hl : rises o.x.ls ∧ o.x.ls.length ≤ 8
  rotate_left
  · exact (ckt3 w c0 c1 n2 c3 c4 c5 c6 c7 c8 Cm cd ce (fun w' hw => (cl w' hw).mono (fun en w'' hh => by
      obtain ⟨R, rfl, hR, m, rfl⟩ := hh
      obtain rfl : R = false := by
        cases R
        · rfl
        · exact absurd (hR.1 rfl) hl
      exact ⟨rfl, below_drewN (Below.refl _ _) m⟩))).mono fun en w' => no (fun hh => hl hh.2.2.2.2.1)
  have Cl : ∀ w', Below w.heap.size w w' → Calls Try.prog 44 #[.slice o.L o.x.ls.length o.lc] w' fun en w'' => en = .returned (.bool true) ∧ Below w'.heap.size w' w'' := fun w' hw => (cl w' hw).mono (fun en w'' hh => by
    obtain ⟨R, rfl, hR, m, rfl⟩ := hh
    obtain rfl : R = true := hR.2 hl
    exact ⟨rfl, below_drewN (Below.refl _ _) m⟩)
  obtain ⟨o', hx, hs, U, hU, hu⟩ := usedO o h ⟨by omega, by omega⟩ w hr
  have hsame := fun w' (hw : Below w.heap.size w w') => mlsame_any o o' h hs w' (hr.below hw hw.size) (hu w' hw).1 _ rfl
  rw [hU] at hsame
  refine (ckt4 w c0 c1 n2 c3 c4 c5 c6 c7 c8 Cm cd ce Cl U (decide (o.x = o'.x)) _ rfl (fun w' hw => (hu w' hw).2) hsame).mono fun en w' hh => ⟨_, hh.1, ?_, hh.2⟩
  rw [hx]
  by_cases hq : o.x = usedL o.x
  · exact .inl ⟨⟨hnum, hm, hd, he, hl, hq⟩, by rw [decide_eq_true hq]; rfl⟩
  · exact .inr ⟨fun hh => hq hh.2.2.2.2.2, by rw [decide_eq_false hq]; rfl⟩
end Go.Proofs.Ytjmhefkmpfkpbaa
