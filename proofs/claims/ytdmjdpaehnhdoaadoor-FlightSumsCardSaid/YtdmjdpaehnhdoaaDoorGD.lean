/- Flight's Door: mail.Check: its ways -/
import Derived.Test.YtdmjdpaehnhdoaaDoorGAB
import Derived.Test.YtdmjdpaehnhdoaaDoorKA
import Derived.Deep.Cut
namespace Go.Proofs.YtdmjdpaehnhdoaaDoor
open Go.ChangeShapes Go.WideShapes Go.ChangeAt Go.RowKit
set_option linter.unusedSimpArgs false
set_option linter.unusedVariables false
abbrev qgd0 (akd afr att aep anu aab : Int) (ag0 : Bool) (aX0 : Option Addr) (an0 ac0 : Nat) (ae0 : Int) (ag1 : Bool) (aX1 : Option Addr) (an1 ac1 : Nat) (ae1 : Int) (ag2 : Bool) (aX2 : Option Addr) (an2 ac2 : Nat) (ae2 : Int) (ag3 : Bool) (aX3 : Option Addr) (an3 ac3 : Nat) (ae3 : Int) (awa : Bool) (aD : Option Addr) (adn adc : Nat) (aeh : Bool) (ax1 ax2 : Int) (aL : Option Addr) (aln alc : Nat) : Array Value := #[.int .u8 akd, .int .i64 afr, .int .i64 att, .int .i64 aep, .int .i64 anu, .int .i64 aab, .bool ag0, .slice aX0 an0 ac0, .int .i64 ae0, .bool ag1, .slice aX1 an1 ac1, .int .i64 ae1, .bool ag2, .slice aX2 an2 ac2, .int .i64 ae2, .bool ag3, .slice aX3 an3 ac3, .int .i64 ae3, .bool awa, .slice aD adn adc, .bool aeh, .int .i64 ax1, .int .i64 ax2, .slice aL aln alc]
abbrev qgd1 (ag0 : Bool) (aX0 : Option Addr) (an0 ac0 : Nat) (ae0 : Int) (ag1 : Bool) (aX1 : Option Addr) (an1 ac1 : Nat) (ae1 : Int) (ag2 : Bool) (aX2 : Option Addr) (an2 ac2 : Nat) (ae2 : Int) (ag3 : Bool) (aX3 : Option Addr) (an3 ac3 : Nat) (ae3 : Int) : Array Value := #[.bool ag0, .slice aX0 an0 ac0, .int .i64 ae0, .bool ag1, .slice aX1 an1 ac1, .int .i64 ae1, .bool ag2, .slice aX2 an2 ac2, .int .i64 ae2, .bool ag3, .slice aX3 an3 ac3, .int .i64 ae3]
set_option maxRecDepth 100000 in
set_option maxHeartbeats 16000000 in
theorem ckn0 {akd afr att aep anu aab : Int} {ag0 : Bool} {aX0 : Option Addr} {an0 ac0 : Nat} {ae0 : Int} {ag1 : Bool} {aX1 : Option Addr} {an1 ac1 : Nat} {ae1 : Int} {ag2 : Bool} {aX2 : Option Addr} {an2 ac2 : Nat} {ae2 : Int} {ag3 : Bool} {aX3 : Option Addr} {an3 ac3 : Nat} {ae3 : Int} {awa : Bool} {aD : Option Addr} {adn adc : Nat} {aeh : Bool} {ax1 ax2 : Int} {aL : Option Addr} {aln alc : Nat} (w : World) (c0 : decide (akd < 1) = true) : Calls Tryd.prog 35 #[.agg (qgd0 akd afr att aep anu aab ag0 aX0 an0 ac0 ae0 ag1 aX1 an1 ac1 ae1 ag2 aX2 an2 ac2 ae2 ag3 aX3 an3 ac3 ae3 awa aD adn adc aeh ax1 ax2 aL aln alc)] w fun en w' => en = .returned (.int .i64 100) ∧ Below w.heap.size w w' := by
  obtain ⟨V, hV⟩ : ∃ V, V = w.alloc (.cells (qgd0 akd afr att aep anu aab ag0 aX0 an0 ac0 ae0 ag1 aX1 an1 ac1 ae1 ag2 aX2 an2 ac2 ae2 ag3 aX3 an3 ac3 ae3 awa aD adn adc aeh ax1 ax2 aL aln alc) 32) := ⟨_, rfl⟩
  have hB : Below w.heap.size w V := by rw [hV]; exact (Below.refl _ _).alloc (Nat.le_refl _) _
  have ka : Blk V w.heap.size 32 (qgd0 akd afr att aep anu aab ag0 aX0 an0 ac0 ae0 ag1 aX1 an1 ac1 ae1 ag2 aX2 an2 ac2 ae2 ag3 aX3 an3 ac3 ae3 awa aD adn adc aeh ax1 ax2 aL aln alc) := by rw [hV]; exact Blk.new w _ _
  have a0 : V.cell? ⟨w.heap.size, 0, none⟩ = some (.int .u8 akd) := by rw [ka.cell]; rfl
  go_enter Tryd.func35, Tryd.ntmps35
  go_wp2_with fail
  rw [← hV]
  clear hV
  go_wp2
  go_ret
  exact ⟨rfl, hB⟩
set_option maxRecDepth 100000 in
set_option maxHeartbeats 16000000 in
theorem ckn1 {akd afr att aep anu aab : Int} {ag0 : Bool} {aX0 : Option Addr} {an0 ac0 : Nat} {ae0 : Int} {ag1 : Bool} {aX1 : Option Addr} {an1 ac1 : Nat} {ae1 : Int} {ag2 : Bool} {aX2 : Option Addr} {an2 ac2 : Nat} {ae2 : Int} {ag3 : Bool} {aX3 : Option Addr} {an3 ac3 : Nat} {ae3 : Int} {awa : Bool} {aD : Option Addr} {adn adc : Nat} {aeh : Bool} {ax1 ax2 : Int} {aL : Option Addr} {aln alc : Nat} (w : World) (c0 : decide (akd < 1) = false) (c1 : decide ((6 : Int) < akd) = true) : Calls Tryd.prog 35 #[.agg (qgd0 akd afr att aep anu aab ag0 aX0 an0 ac0 ae0 ag1 aX1 an1 ac1 ae1 ag2 aX2 an2 ac2 ae2 ag3 aX3 an3 ac3 ae3 awa aD adn adc aeh ax1 ax2 aL aln alc)] w fun en w' => en = .returned (.int .i64 100) ∧ Below w.heap.size w w' := by
  obtain ⟨V, hV⟩ : ∃ V, V = w.alloc (.cells (qgd0 akd afr att aep anu aab ag0 aX0 an0 ac0 ae0 ag1 aX1 an1 ac1 ae1 ag2 aX2 an2 ac2 ae2 ag3 aX3 an3 ac3 ae3 awa aD adn adc aeh ax1 ax2 aL aln alc) 32) := ⟨_, rfl⟩
  have hB : Below w.heap.size w V := by rw [hV]; exact (Below.refl _ _).alloc (Nat.le_refl _) _
  have ka : Blk V w.heap.size 32 (qgd0 akd afr att aep anu aab ag0 aX0 an0 ac0 ae0 ag1 aX1 an1 ac1 ae1 ag2 aX2 an2 ac2 ae2 ag3 aX3 an3 ac3 ae3 awa aD adn adc aeh ax1 ax2 aL aln alc) := by rw [hV]; exact Blk.new w _ _
  have a0 : V.cell? ⟨w.heap.size, 0, none⟩ = some (.int .u8 akd) := by rw [ka.cell]; rfl
  go_enter Tryd.func35, Tryd.ntmps35
  go_wp2_with fail
  rw [← hV]
  clear hV
  go_wp2
  go_ret
  exact ⟨rfl, hB⟩
set_option maxRecDepth 100000 in
set_option maxHeartbeats 16000000 in
theorem ckn2 {akd afr att aep anu aab : Int} {ag0 : Bool} {aX0 : Option Addr} {an0 ac0 : Nat} {ae0 : Int} {ag1 : Bool} {aX1 : Option Addr} {an1 ac1 : Nat} {ae1 : Int} {ag2 : Bool} {aX2 : Option Addr} {an2 ac2 : Nat} {ae2 : Int} {ag3 : Bool} {aX3 : Option Addr} {an3 ac3 : Nat} {ae3 : Int} {awa : Bool} {aD : Option Addr} {adn adc : Nat} {aeh : Bool} {ax1 ax2 : Int} {aL : Option Addr} {aln alc : Nat} (w : World) (c0 : decide (akd < 1) = false) (c1 : decide ((6 : Int) < akd) = false) (hq : badN afr = true ∨ badN att = true) : Calls Tryd.prog 35 #[.agg (qgd0 akd afr att aep anu aab ag0 aX0 an0 ac0 ae0 ag1 aX1 an1 ac1 ae1 ag2 aX2 an2 ac2 ae2 ag3 aX3 an3 ac3 ae3 awa aD adn adc aeh ax1 ax2 aL aln alc)] w fun en w' => en = .returned (.int .i64 100) ∧ Below w.heap.size w w' := by
  obtain ⟨V, hV⟩ : ∃ V, V = w.alloc (.cells (qgd0 akd afr att aep anu aab ag0 aX0 an0 ac0 ae0 ag1 aX1 an1 ac1 ae1 ag2 aX2 an2 ac2 ae2 ag3 aX3 an3 ac3 ae3 awa aD adn adc aeh ax1 ax2 aL aln alc) 32) := ⟨_, rfl⟩
  have hB : Below w.heap.size w V := by rw [hV]; exact (Below.refl _ _).alloc (Nat.le_refl _) _
  have ka : Blk V w.heap.size 32 (qgd0 akd afr att aep anu aab ag0 aX0 an0 ac0 ae0 ag1 aX1 an1 ac1 ae1 ag2 aX2 an2 ac2 ae2 ag3 aX3 an3 ac3 ae3 awa aD adn adc aeh ax1 ax2 aL aln alc) := by rw [hV]; exact Blk.new w _ _
  have a0 : V.cell? ⟨w.heap.size, 0, none⟩ = some (.int .u8 akd) := by rw [ka.cell]; rfl
  have a1 : V.cell? ⟨w.heap.size, 1, none⟩ = some (.int .i64 afr) := by rw [ka.cell]; rfl
  have a2 : V.cell? ⟨w.heap.size, 2, none⟩ = some (.int .i64 att) := by rw [ka.cell]; rfl
  obtain ⟨V2, hV2⟩ : ∃ V2, V2 = V.alloc (.cells #[.int .i64 afr, .int .i64 att] 3) := ⟨_, rfl⟩
  have kn : Blk V2 V.heap.size 3 #[.int .i64 afr, .int .i64 att] := by rw [hV2]; exact Blk.new V _ _
  have kb : Blk V2 w.heap.size 32 (qgd0 akd afr att aep anu aab ag0 aX0 an0 ac0 ae0 ag1 aX1 an1 ac1 ae1 ag2 aX2 an2 ac2 ae2 ag3 aX3 an3 ac3 ae3 awa aD adn adc aeh ax1 ax2 aL aln alc) := by rw [hV2]; exact ka.alloc _
  have hB2 : Below w.heap.size w V2 := by rw [hV2]; exact hB.alloc hB.size _
  have hVs : V.heap.size = w.heap.size + 1 := by rw [hV]; simp
  rw [hVs] at kn
  clear hVs
  have hn := node_any (w.heap.size + 1) afr att V2 (by rw [kn.cell]; rfl) (by rw [kn.cell]; rfl)
  have hnb : (!(badN afr || badN att)) = false := by rcases hq with h | h <;> rw [h] <;> simp
  rw [hnb] at hn
  clear hq hnb kn
  go_enter Tryd.func35, Tryd.ntmps35
  go_wp2_with fail
  rw [← hV]
  clear hV
  go_wp2_with fail
  rw [← hV2]
  clear hV2
  refine hn.mono ?_
  rintro en w2 ⟨rfl, rfl⟩
  clear a0 a1 a2 hn
  go_wp2
  go_ret
  exact ⟨rfl, hB2⟩
set_option maxRecDepth 100000 in
set_option maxHeartbeats 16000000 in
theorem ckn3 {akd afr att aep anu aab : Int} {ag0 : Bool} {aX0 : Option Addr} {an0 ac0 : Nat} {ae0 : Int} {ag1 : Bool} {aX1 : Option Addr} {an1 ac1 : Nat} {ae1 : Int} {ag2 : Bool} {aX2 : Option Addr} {an2 ac2 : Nat} {ae2 : Int} {ag3 : Bool} {aX3 : Option Addr} {an3 ac3 : Nat} {ae3 : Int} {awa : Bool} {aD : Option Addr} {adn adc : Nat} {aeh : Bool} {ax1 ax2 : Int} {aL : Option Addr} {aln alc : Nat} (w : World) (c0 : decide (akd < 1) = false) (c1 : decide ((6 : Int) < akd) = false) (hq : badN afr = false ∧ badN att = false) (c3 : decide (aep < 0) = true) : Calls Tryd.prog 35 #[.agg (qgd0 akd afr att aep anu aab ag0 aX0 an0 ac0 ae0 ag1 aX1 an1 ac1 ae1 ag2 aX2 an2 ac2 ae2 ag3 aX3 an3 ac3 ae3 awa aD adn adc aeh ax1 ax2 aL aln alc)] w fun en w' => en = .returned (.int .i64 100) ∧ Below w.heap.size w w' := by
  obtain ⟨V, hV⟩ : ∃ V, V = w.alloc (.cells (qgd0 akd afr att aep anu aab ag0 aX0 an0 ac0 ae0 ag1 aX1 an1 ac1 ae1 ag2 aX2 an2 ac2 ae2 ag3 aX3 an3 ac3 ae3 awa aD adn adc aeh ax1 ax2 aL aln alc) 32) := ⟨_, rfl⟩
  have hB : Below w.heap.size w V := by rw [hV]; exact (Below.refl _ _).alloc (Nat.le_refl _) _
  have ka : Blk V w.heap.size 32 (qgd0 akd afr att aep anu aab ag0 aX0 an0 ac0 ae0 ag1 aX1 an1 ac1 ae1 ag2 aX2 an2 ac2 ae2 ag3 aX3 an3 ac3 ae3 awa aD adn adc aeh ax1 ax2 aL aln alc) := by rw [hV]; exact Blk.new w _ _
  have a0 : V.cell? ⟨w.heap.size, 0, none⟩ = some (.int .u8 akd) := by rw [ka.cell]; rfl
  have a1 : V.cell? ⟨w.heap.size, 1, none⟩ = some (.int .i64 afr) := by rw [ka.cell]; rfl
  have a2 : V.cell? ⟨w.heap.size, 2, none⟩ = some (.int .i64 att) := by rw [ka.cell]; rfl
  obtain ⟨V2, hV2⟩ : ∃ V2, V2 = V.alloc (.cells #[.int .i64 afr, .int .i64 att] 3) := ⟨_, rfl⟩
  have kn : Blk V2 V.heap.size 3 #[.int .i64 afr, .int .i64 att] := by rw [hV2]; exact Blk.new V _ _
  have kb : Blk V2 w.heap.size 32 (qgd0 akd afr att aep anu aab ag0 aX0 an0 ac0 ae0 ag1 aX1 an1 ac1 ae1 ag2 aX2 an2 ac2 ae2 ag3 aX3 an3 ac3 ae3 awa aD adn adc aeh ax1 ax2 aL aln alc) := by rw [hV2]; exact ka.alloc _
  have hB2 : Below w.heap.size w V2 := by rw [hV2]; exact hB.alloc hB.size _
  have hVs : V.heap.size = w.heap.size + 1 := by rw [hV]; simp
  rw [hVs] at kn
  clear hVs
  have hn := node_any (w.heap.size + 1) afr att V2 (by rw [kn.cell]; rfl) (by rw [kn.cell]; rfl)
  have hnb : (!(badN afr || badN att)) = true := by rw [hq.1, hq.2]; rfl
  rw [hnb] at hn
  clear hq hnb kn
  go_enter Tryd.func35, Tryd.ntmps35
  go_wp2_with fail
  rw [← hV]
  clear hV
  go_wp2_with fail
  rw [← hV2]
  clear hV2
  refine hn.mono ?_
  rintro en w2 ⟨rfl, rfl⟩
  clear a0 a1 a2 hn
  have a3 : V2.cell? ⟨w.heap.size, 3, none⟩ = some (.int .i64 aep) := by rw [kb.cell]; rfl
  go_wp2
  go_ret
  exact ⟨rfl, hB2⟩
set_option maxRecDepth 100000 in
set_option maxHeartbeats 16000000 in
theorem ckn4 {akd afr att aep anu aab : Int} {ag0 : Bool} {aX0 : Option Addr} {an0 ac0 : Nat} {ae0 : Int} {ag1 : Bool} {aX1 : Option Addr} {an1 ac1 : Nat} {ae1 : Int} {ag2 : Bool} {aX2 : Option Addr} {an2 ac2 : Nat} {ae2 : Int} {ag3 : Bool} {aX3 : Option Addr} {an3 ac3 : Nat} {ae3 : Int} {awa : Bool} {aD : Option Addr} {adn adc : Nat} {aeh : Bool} {ax1 ax2 : Int} {aL : Option Addr} {aln alc : Nat} (w : World) (c0 : decide (akd < 1) = false) (c1 : decide ((6 : Int) < akd) = false) (hq : badN afr = false ∧ badN att = false) (c3 : decide (aep < 0) = false) (c4 : decide ((65535 : Int) < aep) = true) : Calls Tryd.prog 35 #[.agg (qgd0 akd afr att aep anu aab ag0 aX0 an0 ac0 ae0 ag1 aX1 an1 ac1 ae1 ag2 aX2 an2 ac2 ae2 ag3 aX3 an3 ac3 ae3 awa aD adn adc aeh ax1 ax2 aL aln alc)] w fun en w' => en = .returned (.int .i64 100) ∧ Below w.heap.size w w' := by
  obtain ⟨V, hV⟩ : ∃ V, V = w.alloc (.cells (qgd0 akd afr att aep anu aab ag0 aX0 an0 ac0 ae0 ag1 aX1 an1 ac1 ae1 ag2 aX2 an2 ac2 ae2 ag3 aX3 an3 ac3 ae3 awa aD adn adc aeh ax1 ax2 aL aln alc) 32) := ⟨_, rfl⟩
  have hB : Below w.heap.size w V := by rw [hV]; exact (Below.refl _ _).alloc (Nat.le_refl _) _
  have ka : Blk V w.heap.size 32 (qgd0 akd afr att aep anu aab ag0 aX0 an0 ac0 ae0 ag1 aX1 an1 ac1 ae1 ag2 aX2 an2 ac2 ae2 ag3 aX3 an3 ac3 ae3 awa aD adn adc aeh ax1 ax2 aL aln alc) := by rw [hV]; exact Blk.new w _ _
  have a0 : V.cell? ⟨w.heap.size, 0, none⟩ = some (.int .u8 akd) := by rw [ka.cell]; rfl
  have a1 : V.cell? ⟨w.heap.size, 1, none⟩ = some (.int .i64 afr) := by rw [ka.cell]; rfl
  have a2 : V.cell? ⟨w.heap.size, 2, none⟩ = some (.int .i64 att) := by rw [ka.cell]; rfl
  obtain ⟨V2, hV2⟩ : ∃ V2, V2 = V.alloc (.cells #[.int .i64 afr, .int .i64 att] 3) := ⟨_, rfl⟩
  have kn : Blk V2 V.heap.size 3 #[.int .i64 afr, .int .i64 att] := by rw [hV2]; exact Blk.new V _ _
  have kb : Blk V2 w.heap.size 32 (qgd0 akd afr att aep anu aab ag0 aX0 an0 ac0 ae0 ag1 aX1 an1 ac1 ae1 ag2 aX2 an2 ac2 ae2 ag3 aX3 an3 ac3 ae3 awa aD adn adc aeh ax1 ax2 aL aln alc) := by rw [hV2]; exact ka.alloc _
  have hB2 : Below w.heap.size w V2 := by rw [hV2]; exact hB.alloc hB.size _
  have hVs : V.heap.size = w.heap.size + 1 := by rw [hV]; simp
  rw [hVs] at kn
  clear hVs
  have hn := node_any (w.heap.size + 1) afr att V2 (by rw [kn.cell]; rfl) (by rw [kn.cell]; rfl)
  have hnb : (!(badN afr || badN att)) = true := by rw [hq.1, hq.2]; rfl
  rw [hnb] at hn
  clear hq hnb kn
  go_enter Tryd.func35, Tryd.ntmps35
  go_wp2_with fail
  rw [← hV]
  clear hV
  go_wp2_with fail
  rw [← hV2]
  clear hV2
  refine hn.mono ?_
  rintro en w2 ⟨rfl, rfl⟩
  clear a0 a1 a2 hn
  have a3 : V2.cell? ⟨w.heap.size, 3, none⟩ = some (.int .i64 aep) := by rw [kb.cell]; rfl
  go_wp2
  go_ret
  exact ⟨rfl, hB2⟩
set_option maxRecDepth 100000 in
set_option maxHeartbeats 16000000 in
theorem ckn5 {akd afr att aep anu aab : Int} {ag0 : Bool} {aX0 : Option Addr} {an0 ac0 : Nat} {ae0 : Int} {ag1 : Bool} {aX1 : Option Addr} {an1 ac1 : Nat} {ae1 : Int} {ag2 : Bool} {aX2 : Option Addr} {an2 ac2 : Nat} {ae2 : Int} {ag3 : Bool} {aX3 : Option Addr} {an3 ac3 : Nat} {ae3 : Int} {awa : Bool} {aD : Option Addr} {adn adc : Nat} {aeh : Bool} {ax1 ax2 : Int} {aL : Option Addr} {aln alc : Nat} (w : World) (c0 : decide (akd < 1) = false) (c1 : decide ((6 : Int) < akd) = false) (hq : badN afr = false ∧ badN att = false) (c3 : decide (aep < 0) = false) (c4 : decide ((65535 : Int) < aep) = false) (c5 : decide (anu < 0) = true) : Calls Tryd.prog 35 #[.agg (qgd0 akd afr att aep anu aab ag0 aX0 an0 ac0 ae0 ag1 aX1 an1 ac1 ae1 ag2 aX2 an2 ac2 ae2 ag3 aX3 an3 ac3 ae3 awa aD adn adc aeh ax1 ax2 aL aln alc)] w fun en w' => en = .returned (.int .i64 100) ∧ Below w.heap.size w w' := by
  obtain ⟨V, hV⟩ : ∃ V, V = w.alloc (.cells (qgd0 akd afr att aep anu aab ag0 aX0 an0 ac0 ae0 ag1 aX1 an1 ac1 ae1 ag2 aX2 an2 ac2 ae2 ag3 aX3 an3 ac3 ae3 awa aD adn adc aeh ax1 ax2 aL aln alc) 32) := ⟨_, rfl⟩
  have hB : Below w.heap.size w V := by rw [hV]; exact (Below.refl _ _).alloc (Nat.le_refl _) _
  have ka : Blk V w.heap.size 32 (qgd0 akd afr att aep anu aab ag0 aX0 an0 ac0 ae0 ag1 aX1 an1 ac1 ae1 ag2 aX2 an2 ac2 ae2 ag3 aX3 an3 ac3 ae3 awa aD adn adc aeh ax1 ax2 aL aln alc) := by rw [hV]; exact Blk.new w _ _
  have a0 : V.cell? ⟨w.heap.size, 0, none⟩ = some (.int .u8 akd) := by rw [ka.cell]; rfl
  have a1 : V.cell? ⟨w.heap.size, 1, none⟩ = some (.int .i64 afr) := by rw [ka.cell]; rfl
  have a2 : V.cell? ⟨w.heap.size, 2, none⟩ = some (.int .i64 att) := by rw [ka.cell]; rfl
  obtain ⟨V2, hV2⟩ : ∃ V2, V2 = V.alloc (.cells #[.int .i64 afr, .int .i64 att] 3) := ⟨_, rfl⟩
  have kn : Blk V2 V.heap.size 3 #[.int .i64 afr, .int .i64 att] := by rw [hV2]; exact Blk.new V _ _
  have kb : Blk V2 w.heap.size 32 (qgd0 akd afr att aep anu aab ag0 aX0 an0 ac0 ae0 ag1 aX1 an1 ac1 ae1 ag2 aX2 an2 ac2 ae2 ag3 aX3 an3 ac3 ae3 awa aD adn adc aeh ax1 ax2 aL aln alc) := by rw [hV2]; exact ka.alloc _
  have hB2 : Below w.heap.size w V2 := by rw [hV2]; exact hB.alloc hB.size _
  have hVs : V.heap.size = w.heap.size + 1 := by rw [hV]; simp
  rw [hVs] at kn
  clear hVs
  have hn := node_any (w.heap.size + 1) afr att V2 (by rw [kn.cell]; rfl) (by rw [kn.cell]; rfl)
  have hnb : (!(badN afr || badN att)) = true := by rw [hq.1, hq.2]; rfl
  rw [hnb] at hn
  clear hq hnb kn
  go_enter Tryd.func35, Tryd.ntmps35
  go_wp2_with fail
  rw [← hV]
  clear hV
  go_wp2_with fail
  rw [← hV2]
  clear hV2
  refine hn.mono ?_
  rintro en w2 ⟨rfl, rfl⟩
  clear a0 a1 a2 hn
  have a3 : V2.cell? ⟨w.heap.size, 3, none⟩ = some (.int .i64 aep) := by rw [kb.cell]; rfl
  have a4 : V2.cell? ⟨w.heap.size, 4, none⟩ = some (.int .i64 anu) := by rw [kb.cell]; rfl
  go_wp2
  go_ret
  exact ⟨rfl, hB2⟩
set_option maxRecDepth 100000 in
set_option maxHeartbeats 16000000 in
theorem ckn6 {akd afr att aep anu aab : Int} {ag0 : Bool} {aX0 : Option Addr} {an0 ac0 : Nat} {ae0 : Int} {ag1 : Bool} {aX1 : Option Addr} {an1 ac1 : Nat} {ae1 : Int} {ag2 : Bool} {aX2 : Option Addr} {an2 ac2 : Nat} {ae2 : Int} {ag3 : Bool} {aX3 : Option Addr} {an3 ac3 : Nat} {ae3 : Int} {awa : Bool} {aD : Option Addr} {adn adc : Nat} {aeh : Bool} {ax1 ax2 : Int} {aL : Option Addr} {aln alc : Nat} (w : World) (c0 : decide (akd < 1) = false) (c1 : decide ((6 : Int) < akd) = false) (hq : badN afr = false ∧ badN att = false) (c3 : decide (aep < 0) = false) (c4 : decide ((65535 : Int) < aep) = false) (c5 : decide (anu < 0) = false) (c6 : decide ((1048575 : Int) < anu) = true) : Calls Tryd.prog 35 #[.agg (qgd0 akd afr att aep anu aab ag0 aX0 an0 ac0 ae0 ag1 aX1 an1 ac1 ae1 ag2 aX2 an2 ac2 ae2 ag3 aX3 an3 ac3 ae3 awa aD adn adc aeh ax1 ax2 aL aln alc)] w fun en w' => en = .returned (.int .i64 100) ∧ Below w.heap.size w w' := by
  obtain ⟨V, hV⟩ : ∃ V, V = w.alloc (.cells (qgd0 akd afr att aep anu aab ag0 aX0 an0 ac0 ae0 ag1 aX1 an1 ac1 ae1 ag2 aX2 an2 ac2 ae2 ag3 aX3 an3 ac3 ae3 awa aD adn adc aeh ax1 ax2 aL aln alc) 32) := ⟨_, rfl⟩
  have hB : Below w.heap.size w V := by rw [hV]; exact (Below.refl _ _).alloc (Nat.le_refl _) _
  have ka : Blk V w.heap.size 32 (qgd0 akd afr att aep anu aab ag0 aX0 an0 ac0 ae0 ag1 aX1 an1 ac1 ae1 ag2 aX2 an2 ac2 ae2 ag3 aX3 an3 ac3 ae3 awa aD adn adc aeh ax1 ax2 aL aln alc) := by rw [hV]; exact Blk.new w _ _
  have a0 : V.cell? ⟨w.heap.size, 0, none⟩ = some (.int .u8 akd) := by rw [ka.cell]; rfl
  have a1 : V.cell? ⟨w.heap.size, 1, none⟩ = some (.int .i64 afr) := by rw [ka.cell]; rfl
  have a2 : V.cell? ⟨w.heap.size, 2, none⟩ = some (.int .i64 att) := by rw [ka.cell]; rfl
  obtain ⟨V2, hV2⟩ : ∃ V2, V2 = V.alloc (.cells #[.int .i64 afr, .int .i64 att] 3) := ⟨_, rfl⟩
  have kn : Blk V2 V.heap.size 3 #[.int .i64 afr, .int .i64 att] := by rw [hV2]; exact Blk.new V _ _
  have kb : Blk V2 w.heap.size 32 (qgd0 akd afr att aep anu aab ag0 aX0 an0 ac0 ae0 ag1 aX1 an1 ac1 ae1 ag2 aX2 an2 ac2 ae2 ag3 aX3 an3 ac3 ae3 awa aD adn adc aeh ax1 ax2 aL aln alc) := by rw [hV2]; exact ka.alloc _
  have hB2 : Below w.heap.size w V2 := by rw [hV2]; exact hB.alloc hB.size _
  have hVs : V.heap.size = w.heap.size + 1 := by rw [hV]; simp
  rw [hVs] at kn
  clear hVs
  have hn := node_any (w.heap.size + 1) afr att V2 (by rw [kn.cell]; rfl) (by rw [kn.cell]; rfl)
  have hnb : (!(badN afr || badN att)) = true := by rw [hq.1, hq.2]; rfl
  rw [hnb] at hn
  clear hq hnb kn
  go_enter Tryd.func35, Tryd.ntmps35
  go_wp2_with fail
  rw [← hV]
  clear hV
  go_wp2_with fail
  rw [← hV2]
  clear hV2
  refine hn.mono ?_
  rintro en w2 ⟨rfl, rfl⟩
  clear a0 a1 a2 hn
  have a3 : V2.cell? ⟨w.heap.size, 3, none⟩ = some (.int .i64 aep) := by rw [kb.cell]; rfl
  have a4 : V2.cell? ⟨w.heap.size, 4, none⟩ = some (.int .i64 anu) := by rw [kb.cell]; rfl
  go_wp2
  go_ret
  exact ⟨rfl, hB2⟩
set_option maxRecDepth 100000 in
set_option maxHeartbeats 16000000 in
theorem ckn7 {akd afr att aep anu aab : Int} {ag0 : Bool} {aX0 : Option Addr} {an0 ac0 : Nat} {ae0 : Int} {ag1 : Bool} {aX1 : Option Addr} {an1 ac1 : Nat} {ae1 : Int} {ag2 : Bool} {aX2 : Option Addr} {an2 ac2 : Nat} {ae2 : Int} {ag3 : Bool} {aX3 : Option Addr} {an3 ac3 : Nat} {ae3 : Int} {awa : Bool} {aD : Option Addr} {adn adc : Nat} {aeh : Bool} {ax1 ax2 : Int} {aL : Option Addr} {aln alc : Nat} (w : World) (c0 : decide (akd < 1) = false) (c1 : decide ((6 : Int) < akd) = false) (hq : badN afr = false ∧ badN att = false) (c3 : decide (aep < 0) = false) (c4 : decide ((65535 : Int) < aep) = false) (c5 : decide (anu < 0) = false) (c6 : decide ((1048575 : Int) < anu) = false) (c7 : decide (aab < 0) = true) : Calls Tryd.prog 35 #[.agg (qgd0 akd afr att aep anu aab ag0 aX0 an0 ac0 ae0 ag1 aX1 an1 ac1 ae1 ag2 aX2 an2 ac2 ae2 ag3 aX3 an3 ac3 ae3 awa aD adn adc aeh ax1 ax2 aL aln alc)] w fun en w' => en = .returned (.int .i64 100) ∧ Below w.heap.size w w' := by
  obtain ⟨V, hV⟩ : ∃ V, V = w.alloc (.cells (qgd0 akd afr att aep anu aab ag0 aX0 an0 ac0 ae0 ag1 aX1 an1 ac1 ae1 ag2 aX2 an2 ac2 ae2 ag3 aX3 an3 ac3 ae3 awa aD adn adc aeh ax1 ax2 aL aln alc) 32) := ⟨_, rfl⟩
  have hB : Below w.heap.size w V := by rw [hV]; exact (Below.refl _ _).alloc (Nat.le_refl _) _
  have ka : Blk V w.heap.size 32 (qgd0 akd afr att aep anu aab ag0 aX0 an0 ac0 ae0 ag1 aX1 an1 ac1 ae1 ag2 aX2 an2 ac2 ae2 ag3 aX3 an3 ac3 ae3 awa aD adn adc aeh ax1 ax2 aL aln alc) := by rw [hV]; exact Blk.new w _ _
  have a0 : V.cell? ⟨w.heap.size, 0, none⟩ = some (.int .u8 akd) := by rw [ka.cell]; rfl
  have a1 : V.cell? ⟨w.heap.size, 1, none⟩ = some (.int .i64 afr) := by rw [ka.cell]; rfl
  have a2 : V.cell? ⟨w.heap.size, 2, none⟩ = some (.int .i64 att) := by rw [ka.cell]; rfl
  obtain ⟨V2, hV2⟩ : ∃ V2, V2 = V.alloc (.cells #[.int .i64 afr, .int .i64 att] 3) := ⟨_, rfl⟩
  have kn : Blk V2 V.heap.size 3 #[.int .i64 afr, .int .i64 att] := by rw [hV2]; exact Blk.new V _ _
  have kb : Blk V2 w.heap.size 32 (qgd0 akd afr att aep anu aab ag0 aX0 an0 ac0 ae0 ag1 aX1 an1 ac1 ae1 ag2 aX2 an2 ac2 ae2 ag3 aX3 an3 ac3 ae3 awa aD adn adc aeh ax1 ax2 aL aln alc) := by rw [hV2]; exact ka.alloc _
  have hB2 : Below w.heap.size w V2 := by rw [hV2]; exact hB.alloc hB.size _
  have hVs : V.heap.size = w.heap.size + 1 := by rw [hV]; simp
  rw [hVs] at kn
  clear hVs
  have hn := node_any (w.heap.size + 1) afr att V2 (by rw [kn.cell]; rfl) (by rw [kn.cell]; rfl)
  have hnb : (!(badN afr || badN att)) = true := by rw [hq.1, hq.2]; rfl
  rw [hnb] at hn
  clear hq hnb kn
  go_enter Tryd.func35, Tryd.ntmps35
  go_wp2_with fail
  rw [← hV]
  clear hV
  go_wp2_with fail
  rw [← hV2]
  clear hV2
  refine hn.mono ?_
  rintro en w2 ⟨rfl, rfl⟩
  clear a0 a1 a2 hn
  have a3 : V2.cell? ⟨w.heap.size, 3, none⟩ = some (.int .i64 aep) := by rw [kb.cell]; rfl
  have a4 : V2.cell? ⟨w.heap.size, 4, none⟩ = some (.int .i64 anu) := by rw [kb.cell]; rfl
  have a5 : V2.cell? ⟨w.heap.size, 5, none⟩ = some (.int .i64 aab) := by rw [kb.cell]; rfl
  go_wp2
  go_ret
  exact ⟨rfl, hB2⟩
set_option maxRecDepth 100000 in
set_option maxHeartbeats 16000000 in
theorem ckn8 {akd afr att aep anu aab : Int} {ag0 : Bool} {aX0 : Option Addr} {an0 ac0 : Nat} {ae0 : Int} {ag1 : Bool} {aX1 : Option Addr} {an1 ac1 : Nat} {ae1 : Int} {ag2 : Bool} {aX2 : Option Addr} {an2 ac2 : Nat} {ae2 : Int} {ag3 : Bool} {aX3 : Option Addr} {an3 ac3 : Nat} {ae3 : Int} {awa : Bool} {aD : Option Addr} {adn adc : Nat} {aeh : Bool} {ax1 ax2 : Int} {aL : Option Addr} {aln alc : Nat} (w : World) (c0 : decide (akd < 1) = false) (c1 : decide ((6 : Int) < akd) = false) (hq : badN afr = false ∧ badN att = false) (c3 : decide (aep < 0) = false) (c4 : decide ((65535 : Int) < aep) = false) (c5 : decide (anu < 0) = false) (c6 : decide ((1048575 : Int) < anu) = false) (c7 : decide (aab < 0) = false) (c8 : decide ((1048575 : Int) < aab) = true) : Calls Tryd.prog 35 #[.agg (qgd0 akd afr att aep anu aab ag0 aX0 an0 ac0 ae0 ag1 aX1 an1 ac1 ae1 ag2 aX2 an2 ac2 ae2 ag3 aX3 an3 ac3 ae3 awa aD adn adc aeh ax1 ax2 aL aln alc)] w fun en w' => en = .returned (.int .i64 100) ∧ Below w.heap.size w w' := by
  obtain ⟨V, hV⟩ : ∃ V, V = w.alloc (.cells (qgd0 akd afr att aep anu aab ag0 aX0 an0 ac0 ae0 ag1 aX1 an1 ac1 ae1 ag2 aX2 an2 ac2 ae2 ag3 aX3 an3 ac3 ae3 awa aD adn adc aeh ax1 ax2 aL aln alc) 32) := ⟨_, rfl⟩
  have hB : Below w.heap.size w V := by rw [hV]; exact (Below.refl _ _).alloc (Nat.le_refl _) _
  have ka : Blk V w.heap.size 32 (qgd0 akd afr att aep anu aab ag0 aX0 an0 ac0 ae0 ag1 aX1 an1 ac1 ae1 ag2 aX2 an2 ac2 ae2 ag3 aX3 an3 ac3 ae3 awa aD adn adc aeh ax1 ax2 aL aln alc) := by rw [hV]; exact Blk.new w _ _
  have a0 : V.cell? ⟨w.heap.size, 0, none⟩ = some (.int .u8 akd) := by rw [ka.cell]; rfl
  have a1 : V.cell? ⟨w.heap.size, 1, none⟩ = some (.int .i64 afr) := by rw [ka.cell]; rfl
  have a2 : V.cell? ⟨w.heap.size, 2, none⟩ = some (.int .i64 att) := by rw [ka.cell]; rfl
  obtain ⟨V2, hV2⟩ : ∃ V2, V2 = V.alloc (.cells #[.int .i64 afr, .int .i64 att] 3) := ⟨_, rfl⟩
  have kn : Blk V2 V.heap.size 3 #[.int .i64 afr, .int .i64 att] := by rw [hV2]; exact Blk.new V _ _
  have kb : Blk V2 w.heap.size 32 (qgd0 akd afr att aep anu aab ag0 aX0 an0 ac0 ae0 ag1 aX1 an1 ac1 ae1 ag2 aX2 an2 ac2 ae2 ag3 aX3 an3 ac3 ae3 awa aD adn adc aeh ax1 ax2 aL aln alc) := by rw [hV2]; exact ka.alloc _
  have hB2 : Below w.heap.size w V2 := by rw [hV2]; exact hB.alloc hB.size _
  have hVs : V.heap.size = w.heap.size + 1 := by rw [hV]; simp
  rw [hVs] at kn
  clear hVs
  have hn := node_any (w.heap.size + 1) afr att V2 (by rw [kn.cell]; rfl) (by rw [kn.cell]; rfl)
  have hnb : (!(badN afr || badN att)) = true := by rw [hq.1, hq.2]; rfl
  rw [hnb] at hn
  clear hq hnb kn
  go_enter Tryd.func35, Tryd.ntmps35
  go_wp2_with fail
  rw [← hV]
  clear hV
  go_wp2_with fail
  rw [← hV2]
  clear hV2
  refine hn.mono ?_
  rintro en w2 ⟨rfl, rfl⟩
  clear a0 a1 a2 hn
  have a3 : V2.cell? ⟨w.heap.size, 3, none⟩ = some (.int .i64 aep) := by rw [kb.cell]; rfl
  have a4 : V2.cell? ⟨w.heap.size, 4, none⟩ = some (.int .i64 anu) := by rw [kb.cell]; rfl
  have a5 : V2.cell? ⟨w.heap.size, 5, none⟩ = some (.int .i64 aab) := by rw [kb.cell]; rfl
  go_wp2
  go_ret
  exact ⟨rfl, hB2⟩
set_option maxRecDepth 100000 in
set_option maxHeartbeats 16000000 in
theorem ckt0 {akd afr att aep anu aab : Int} {ag0 : Bool} {aX0 : Option Addr} {an0 ac0 : Nat} {ae0 : Int} {ag1 : Bool} {aX1 : Option Addr} {an1 ac1 : Nat} {ae1 : Int} {ag2 : Bool} {aX2 : Option Addr} {an2 ac2 : Nat} {ae2 : Int} {ag3 : Bool} {aX3 : Option Addr} {an3 ac3 : Nat} {ae3 : Int} {awa : Bool} {aD : Option Addr} {adn adc : Nat} {aeh : Bool} {ax1 ax2 : Int} {aL : Option Addr} {aln alc : Nat} (w : World) (c0 : decide (akd < 1) = false) (c1 : decide ((6 : Int) < akd) = false) (hq : badN afr = false ∧ badN att = false) (c3 : decide (aep < 0) = false) (c4 : decide ((65535 : Int) < aep) = false) (c5 : decide (anu < 0) = false) (c6 : decide ((1048575 : Int) < anu) = false) (c7 : decide (aab < 0) = false) (c8 : decide ((1048575 : Int) < aab) = false) (hm : ∀ w', Below w.heap.size w w' → Calls Tryd.prog 54 #[.agg (qgd1 ag0 aX0 an0 ac0 ae0 ag1 aX1 an1 ac1 ae1 ag2 aX2 an2 ac2 ae2 ag3 aX3 an3 ac3 ae3)] w' fun en w'' => en = .returned (.int .i64 8) ∧ Below w'.heap.size w' w'') : Calls Tryd.prog 35 #[.agg (qgd0 akd afr att aep anu aab ag0 aX0 an0 ac0 ae0 ag1 aX1 an1 ac1 ae1 ag2 aX2 an2 ac2 ae2 ag3 aX3 an3 ac3 ae3 awa aD adn adc aeh ax1 ax2 aL aln alc)] w fun en w' => en = .returned (.int .i64 100) ∧ Below w.heap.size w w' := by
  obtain ⟨V, hV⟩ : ∃ V, V = w.alloc (.cells (qgd0 akd afr att aep anu aab ag0 aX0 an0 ac0 ae0 ag1 aX1 an1 ac1 ae1 ag2 aX2 an2 ac2 ae2 ag3 aX3 an3 ac3 ae3 awa aD adn adc aeh ax1 ax2 aL aln alc) 32) := ⟨_, rfl⟩
  have hB : Below w.heap.size w V := by rw [hV]; exact (Below.refl _ _).alloc (Nat.le_refl _) _
  have ka : Blk V w.heap.size 32 (qgd0 akd afr att aep anu aab ag0 aX0 an0 ac0 ae0 ag1 aX1 an1 ac1 ae1 ag2 aX2 an2 ac2 ae2 ag3 aX3 an3 ac3 ae3 awa aD adn adc aeh ax1 ax2 aL aln alc) := by rw [hV]; exact Blk.new w _ _
  have a0 : V.cell? ⟨w.heap.size, 0, none⟩ = some (.int .u8 akd) := by rw [ka.cell]; rfl
  have a1 : V.cell? ⟨w.heap.size, 1, none⟩ = some (.int .i64 afr) := by rw [ka.cell]; rfl
  have a2 : V.cell? ⟨w.heap.size, 2, none⟩ = some (.int .i64 att) := by rw [ka.cell]; rfl
  obtain ⟨V2, hV2⟩ : ∃ V2, V2 = V.alloc (.cells #[.int .i64 afr, .int .i64 att] 3) := ⟨_, rfl⟩
  have kn : Blk V2 V.heap.size 3 #[.int .i64 afr, .int .i64 att] := by rw [hV2]; exact Blk.new V _ _
  have kb : Blk V2 w.heap.size 32 (qgd0 akd afr att aep anu aab ag0 aX0 an0 ac0 ae0 ag1 aX1 an1 ac1 ae1 ag2 aX2 an2 ac2 ae2 ag3 aX3 an3 ac3 ae3 awa aD adn adc aeh ax1 ax2 aL aln alc) := by rw [hV2]; exact ka.alloc _
  have hB2 : Below w.heap.size w V2 := by rw [hV2]; exact hB.alloc hB.size _
  have hVs : V.heap.size = w.heap.size + 1 := by rw [hV]; simp
  rw [hVs] at kn
  clear hVs
  have hn := node_any (w.heap.size + 1) afr att V2 (by rw [kn.cell]; rfl) (by rw [kn.cell]; rfl)
  have hnb : (!(badN afr || badN att)) = true := by rw [hq.1, hq.2]; rfl
  rw [hnb] at hn
  clear hq hnb kn
  have fhm := fun q : Bw V2.heap.size V2 => Calls.bw (hm q.w (hB2.trans (q.h.mono hB2.size))) (Nat.le_refl _)
  have r1 : ∀ q : Bw V2.heap.size V2, q.w.rangeAt w.heap.size 6 [.bool ag0, .slice aX0 an0 ac0, .int .i64 ae0, .bool ag1, .slice aX1 an1 ac1, .int .i64 ae1, .bool ag2, .slice aX2 an2 ac2, .int .i64 ae2, .bool ag3, .slice aX3 an3 ac3, .int .i64 ae3] := fun q => (kb.below q.h kb.lt).range 6 _ rfl
  clear hm
  go_enter Tryd.func35, Tryd.ntmps35
  go_wp2_with fail
  rw [← hV]
  clear hV
  go_wp2_with fail
  rw [← hV2]
  clear hV2
  refine hn.mono ?_
  rintro en w2 ⟨rfl, rfl⟩
  clear a0 a1 a2 hn
  have a3 : V2.cell? ⟨w.heap.size, 3, none⟩ = some (.int .i64 aep) := by rw [kb.cell]; rfl
  have a4 : V2.cell? ⟨w.heap.size, 4, none⟩ = some (.int .i64 anu) := by rw [kb.cell]; rfl
  have a5 : V2.cell? ⟨w.heap.size, 5, none⟩ = some (.int .i64 aab) := by rw [kb.cell]; rfl
  go_upto_region 3 with (fail)
  clear a3 a4 a5
  refine wp_region_wq V2.heap.size V2 (Below.refl _ _) (by kernel_rfl) (by kernel_rfl) ?_
  repeat (first | (refine WQ.yes (by rfl) (fun K hK => ?_); refine quiet_load_mid 27 _ rfl w.heap.size 6 rfl [.bool ag0, .slice aX0 an0 ac0, .int .i64 ae0, .bool ag1, .slice aX1 an1 ac1, .int .i64 ae1, .bool ag2, .slice aX2 an2 ac2, .int .i64 ae2, .bool ag3, .slice aX3 an3 ac3, .int .i64 ae3] _ r1 Tryd.underlying27 rfl (by kernel_rfl) (hK _ ?_); clear hK K; simp only [Act.put, lsA, lsZ, lsS]) | (refine WQ.yes (by rfl) (fun K hK => ?_); go_simp; first | (refine hK _ ?_; clear hK K) | (apply Exists.intro; refine ⟨fun _ => ?_, hK _ ?_⟩; (first | exact fhm _); clear hK K)) | (refine WQ.no (by rfl) ?_; (try simp only [Act.put, lsA, lsZ, lsS])))
  refine WQ.nil ?_
  intro pq
  have hpB := hB2.trans (pq.h.mono hB2.size)
  clear r1  fhm
  go_wp2
  go_ret
  exact ⟨rfl, hpB⟩
set_option maxRecDepth 100000 in
set_option maxHeartbeats 16000000 in
theorem ckt1 {akd afr att aep anu aab : Int} {ag0 : Bool} {aX0 : Option Addr} {an0 ac0 : Nat} {ae0 : Int} {ag1 : Bool} {aX1 : Option Addr} {an1 ac1 : Nat} {ae1 : Int} {ag2 : Bool} {aX2 : Option Addr} {an2 ac2 : Nat} {ae2 : Int} {ag3 : Bool} {aX3 : Option Addr} {an3 ac3 : Nat} {ae3 : Int} {awa : Bool} {aD : Option Addr} {adn adc : Nat} {aeh : Bool} {ax1 ax2 : Int} {aL : Option Addr} {aln alc : Nat} (w : World) (c0 : decide (akd < 1) = false) (c1 : decide ((6 : Int) < akd) = false) (hq : badN afr = false ∧ badN att = false) (c3 : decide (aep < 0) = false) (c4 : decide ((65535 : Int) < aep) = false) (c5 : decide (anu < 0) = false) (c6 : decide ((1048575 : Int) < anu) = false) (c7 : decide (aab < 0) = false) (c8 : decide ((1048575 : Int) < aab) = false) (hm : ∀ w', Below w.heap.size w w' → Calls Tryd.prog 54 #[.agg (qgd1 ag0 aX0 an0 ac0 ae0 ag1 aX1 an1 ac1 ae1 ag2 aX2 an2 ac2 ae2 ag3 aX3 an3 ac3 ae3)] w' fun en w'' => en = .returned (.int .i64 0) ∧ Below w'.heap.size w' w'') (Ed : Int) (hEd : (Ed != 0) = true) (hd : ∀ w', Below w.heap.size w w' → Calls Tryd.prog 63 #[.slice aD adn adc] w' fun en w'' => en = .returned (.int .i64 Ed) ∧ Below w'.heap.size w' w'') : Calls Tryd.prog 35 #[.agg (qgd0 akd afr att aep anu aab ag0 aX0 an0 ac0 ae0 ag1 aX1 an1 ac1 ae1 ag2 aX2 an2 ac2 ae2 ag3 aX3 an3 ac3 ae3 awa aD adn adc aeh ax1 ax2 aL aln alc)] w fun en w' => en = .returned (.int .i64 100) ∧ Below w.heap.size w w' := by
  obtain ⟨V, hV⟩ : ∃ V, V = w.alloc (.cells (qgd0 akd afr att aep anu aab ag0 aX0 an0 ac0 ae0 ag1 aX1 an1 ac1 ae1 ag2 aX2 an2 ac2 ae2 ag3 aX3 an3 ac3 ae3 awa aD adn adc aeh ax1 ax2 aL aln alc) 32) := ⟨_, rfl⟩
  have hB : Below w.heap.size w V := by rw [hV]; exact (Below.refl _ _).alloc (Nat.le_refl _) _
  have ka : Blk V w.heap.size 32 (qgd0 akd afr att aep anu aab ag0 aX0 an0 ac0 ae0 ag1 aX1 an1 ac1 ae1 ag2 aX2 an2 ac2 ae2 ag3 aX3 an3 ac3 ae3 awa aD adn adc aeh ax1 ax2 aL aln alc) := by rw [hV]; exact Blk.new w _ _
  have a0 : V.cell? ⟨w.heap.size, 0, none⟩ = some (.int .u8 akd) := by rw [ka.cell]; rfl
  have a1 : V.cell? ⟨w.heap.size, 1, none⟩ = some (.int .i64 afr) := by rw [ka.cell]; rfl
  have a2 : V.cell? ⟨w.heap.size, 2, none⟩ = some (.int .i64 att) := by rw [ka.cell]; rfl
  obtain ⟨V2, hV2⟩ : ∃ V2, V2 = V.alloc (.cells #[.int .i64 afr, .int .i64 att] 3) := ⟨_, rfl⟩
  have kn : Blk V2 V.heap.size 3 #[.int .i64 afr, .int .i64 att] := by rw [hV2]; exact Blk.new V _ _
  have kb : Blk V2 w.heap.size 32 (qgd0 akd afr att aep anu aab ag0 aX0 an0 ac0 ae0 ag1 aX1 an1 ac1 ae1 ag2 aX2 an2 ac2 ae2 ag3 aX3 an3 ac3 ae3 awa aD adn adc aeh ax1 ax2 aL aln alc) := by rw [hV2]; exact ka.alloc _
  have hB2 : Below w.heap.size w V2 := by rw [hV2]; exact hB.alloc hB.size _
  have hVs : V.heap.size = w.heap.size + 1 := by rw [hV]; simp
  rw [hVs] at kn
  clear hVs
  have hn := node_any (w.heap.size + 1) afr att V2 (by rw [kn.cell]; rfl) (by rw [kn.cell]; rfl)
  have hnb : (!(badN afr || badN att)) = true := by rw [hq.1, hq.2]; rfl
  rw [hnb] at hn
  clear hq hnb kn
  have fhm := fun q : Bw V2.heap.size V2 => Calls.bw (hm q.w (hB2.trans (q.h.mono hB2.size))) (Nat.le_refl _)
  have fhd := fun q : Bw V2.heap.size V2 => Calls.bw (hd q.w (hB2.trans (q.h.mono hB2.size))) (Nat.le_refl _)
  have r1 : ∀ q : Bw V2.heap.size V2, q.w.rangeAt w.heap.size 6 [.bool ag0, .slice aX0 an0 ac0, .int .i64 ae0, .bool ag1, .slice aX1 an1 ac1, .int .i64 ae1, .bool ag2, .slice aX2 an2 ac2, .int .i64 ae2, .bool ag3, .slice aX3 an3 ac3, .int .i64 ae3] := fun q => (kb.below q.h kb.lt).range 6 _ rfl
  have s18 : ∀ q : Bw V2.heap.size V2, q.w.cell? ⟨w.heap.size, 18, none⟩ = some (.bool awa) := fun q => (q.h.cell (p := ⟨w.heap.size, 18, none⟩) kb.lt).trans (by rw [kb.cell]; rfl)
  have s19 : ∀ q : Bw V2.heap.size V2, q.w.cell? ⟨w.heap.size, 19, none⟩ = some (.slice aD adn adc) := fun q => (q.h.cell (p := ⟨w.heap.size, 19, none⟩) kb.lt).trans (by rw [kb.cell]; rfl)
  clear hm hd
  go_enter Tryd.func35, Tryd.ntmps35
  go_wp2_with fail
  rw [← hV]
  clear hV
  go_wp2_with fail
  rw [← hV2]
  clear hV2
  refine hn.mono ?_
  rintro en w2 ⟨rfl, rfl⟩
  clear a0 a1 a2 hn
  have a3 : V2.cell? ⟨w.heap.size, 3, none⟩ = some (.int .i64 aep) := by rw [kb.cell]; rfl
  have a4 : V2.cell? ⟨w.heap.size, 4, none⟩ = some (.int .i64 anu) := by rw [kb.cell]; rfl
  have a5 : V2.cell? ⟨w.heap.size, 5, none⟩ = some (.int .i64 aab) := by rw [kb.cell]; rfl
  go_upto_region 3 with (fail)
  clear a3 a4 a5
  refine wp_region_wq V2.heap.size V2 (Below.refl _ _) (by kernel_rfl) (by kernel_rfl) ?_
  repeat (first | (refine WQ.yes (by rfl) (fun K hK => ?_); refine quiet_load_mid 27 _ rfl w.heap.size 6 rfl [.bool ag0, .slice aX0 an0 ac0, .int .i64 ae0, .bool ag1, .slice aX1 an1 ac1, .int .i64 ae1, .bool ag2, .slice aX2 an2 ac2, .int .i64 ae2, .bool ag3, .slice aX3 an3 ac3, .int .i64 ae3] _ r1 Tryd.underlying27 rfl (by kernel_rfl) (hK _ ?_); clear hK K; simp only [Act.put, lsA, lsZ, lsS]) | (refine WQ.yes (by rfl) (fun K hK => ?_); go_simp; first | (refine hK _ ?_; clear hK K) | (apply Exists.intro; refine ⟨fun _ => ?_, hK _ ?_⟩; (first | exact fhm _ | exact fhd _); clear hK K)) | (refine WQ.no (by rfl) ?_; (try simp only [Act.put, lsA, lsZ, lsS])))
  refine WQ.nil ?_
  intro pq
  have hpB := hB2.trans (pq.h.mono hB2.size)
  clear r1 s18 s19 fhm fhd
  go_wp2
  go_ret
  exact ⟨rfl, hpB⟩
set_option maxRecDepth 100000 in
set_option maxHeartbeats 16000000 in
theorem ckt2 {akd afr att aep anu aab : Int} {ag0 : Bool} {aX0 : Option Addr} {an0 ac0 : Nat} {ae0 : Int} {ag1 : Bool} {aX1 : Option Addr} {an1 ac1 : Nat} {ae1 : Int} {ag2 : Bool} {aX2 : Option Addr} {an2 ac2 : Nat} {ae2 : Int} {ag3 : Bool} {aX3 : Option Addr} {an3 ac3 : Nat} {ae3 : Int} {awa : Bool} {aD : Option Addr} {adn adc : Nat} {aeh : Bool} {ax1 ax2 : Int} {aL : Option Addr} {aln alc : Nat} (w : World) (c0 : decide (akd < 1) = false) (c1 : decide ((6 : Int) < akd) = false) (hq : badN afr = false ∧ badN att = false) (c3 : decide (aep < 0) = false) (c4 : decide ((65535 : Int) < aep) = false) (c5 : decide (anu < 0) = false) (c6 : decide ((1048575 : Int) < anu) = false) (c7 : decide (aab < 0) = false) (c8 : decide ((1048575 : Int) < aab) = false) (hm : ∀ w', Below w.heap.size w w' → Calls Tryd.prog 54 #[.agg (qgd1 ag0 aX0 an0 ac0 ae0 ag1 aX1 an1 ac1 ae1 ag2 aX2 an2 ac2 ae2 ag3 aX3 an3 ac3 ae3)] w' fun en w'' => en = .returned (.int .i64 0) ∧ Below w'.heap.size w' w'') (hd : ∀ w', Below w.heap.size w w' → Calls Tryd.prog 63 #[.slice aD adn adc] w' fun en w'' => en = .returned (.int .i64 0) ∧ Below w'.heap.size w' w'') (he : ∀ w', Below w.heap.size w w' → Calls Tryd.prog 64 #[.agg #[.bool aeh, .int .i64 ax1, .int .i64 ax2]] w' fun en w'' => en = .returned (.bool false) ∧ Below w'.heap.size w' w'') : Calls Tryd.prog 35 #[.agg (qgd0 akd afr att aep anu aab ag0 aX0 an0 ac0 ae0 ag1 aX1 an1 ac1 ae1 ag2 aX2 an2 ac2 ae2 ag3 aX3 an3 ac3 ae3 awa aD adn adc aeh ax1 ax2 aL aln alc)] w fun en w' => en = .returned (.int .i64 100) ∧ Below w.heap.size w w' := by
  obtain ⟨V, hV⟩ : ∃ V, V = w.alloc (.cells (qgd0 akd afr att aep anu aab ag0 aX0 an0 ac0 ae0 ag1 aX1 an1 ac1 ae1 ag2 aX2 an2 ac2 ae2 ag3 aX3 an3 ac3 ae3 awa aD adn adc aeh ax1 ax2 aL aln alc) 32) := ⟨_, rfl⟩
  have hB : Below w.heap.size w V := by rw [hV]; exact (Below.refl _ _).alloc (Nat.le_refl _) _
  have ka : Blk V w.heap.size 32 (qgd0 akd afr att aep anu aab ag0 aX0 an0 ac0 ae0 ag1 aX1 an1 ac1 ae1 ag2 aX2 an2 ac2 ae2 ag3 aX3 an3 ac3 ae3 awa aD adn adc aeh ax1 ax2 aL aln alc) := by rw [hV]; exact Blk.new w _ _
  have a0 : V.cell? ⟨w.heap.size, 0, none⟩ = some (.int .u8 akd) := by rw [ka.cell]; rfl
  have a1 : V.cell? ⟨w.heap.size, 1, none⟩ = some (.int .i64 afr) := by rw [ka.cell]; rfl
  have a2 : V.cell? ⟨w.heap.size, 2, none⟩ = some (.int .i64 att) := by rw [ka.cell]; rfl
  obtain ⟨V2, hV2⟩ : ∃ V2, V2 = V.alloc (.cells #[.int .i64 afr, .int .i64 att] 3) := ⟨_, rfl⟩
  have kn : Blk V2 V.heap.size 3 #[.int .i64 afr, .int .i64 att] := by rw [hV2]; exact Blk.new V _ _
  have kb : Blk V2 w.heap.size 32 (qgd0 akd afr att aep anu aab ag0 aX0 an0 ac0 ae0 ag1 aX1 an1 ac1 ae1 ag2 aX2 an2 ac2 ae2 ag3 aX3 an3 ac3 ae3 awa aD adn adc aeh ax1 ax2 aL aln alc) := by rw [hV2]; exact ka.alloc _
  have hB2 : Below w.heap.size w V2 := by rw [hV2]; exact hB.alloc hB.size _
  have hVs : V.heap.size = w.heap.size + 1 := by rw [hV]; simp
  rw [hVs] at kn
  clear hVs
  have hn := node_any (w.heap.size + 1) afr att V2 (by rw [kn.cell]; rfl) (by rw [kn.cell]; rfl)
  have hnb : (!(badN afr || badN att)) = true := by rw [hq.1, hq.2]; rfl
  rw [hnb] at hn
  clear hq hnb kn
  have fhm := fun q : Bw V2.heap.size V2 => Calls.bw (hm q.w (hB2.trans (q.h.mono hB2.size))) (Nat.le_refl _)
  have fhd := fun q : Bw V2.heap.size V2 => Calls.bw (hd q.w (hB2.trans (q.h.mono hB2.size))) (Nat.le_refl _)
  have fhe := fun q : Bw V2.heap.size V2 => Calls.bw (he q.w (hB2.trans (q.h.mono hB2.size))) (Nat.le_refl _)
  have r1 : ∀ q : Bw V2.heap.size V2, q.w.rangeAt w.heap.size 6 [.bool ag0, .slice aX0 an0 ac0, .int .i64 ae0, .bool ag1, .slice aX1 an1 ac1, .int .i64 ae1, .bool ag2, .slice aX2 an2 ac2, .int .i64 ae2, .bool ag3, .slice aX3 an3 ac3, .int .i64 ae3] := fun q => (kb.below q.h kb.lt).range 6 _ rfl
  have s18 : ∀ q : Bw V2.heap.size V2, q.w.cell? ⟨w.heap.size, 18, none⟩ = some (.bool awa) := fun q => (q.h.cell (p := ⟨w.heap.size, 18, none⟩) kb.lt).trans (by rw [kb.cell]; rfl)
  have s19 : ∀ q : Bw V2.heap.size V2, q.w.cell? ⟨w.heap.size, 19, none⟩ = some (.slice aD adn adc) := fun q => (q.h.cell (p := ⟨w.heap.size, 19, none⟩) kb.lt).trans (by rw [kb.cell]; rfl)
  have s20 : ∀ q : Bw V2.heap.size V2, q.w.cell? ⟨w.heap.size, 20, none⟩ = some (.bool aeh) := fun q => (q.h.cell (p := ⟨w.heap.size, 20, none⟩) kb.lt).trans (by rw [kb.cell]; rfl)
  have s21 : ∀ q : Bw V2.heap.size V2, q.w.cell? ⟨w.heap.size, 21, none⟩ = some (.int .i64 ax1) := fun q => (q.h.cell (p := ⟨w.heap.size, 21, none⟩) kb.lt).trans (by rw [kb.cell]; rfl)
  have s22 : ∀ q : Bw V2.heap.size V2, q.w.cell? ⟨w.heap.size, 22, none⟩ = some (.int .i64 ax2) := fun q => (q.h.cell (p := ⟨w.heap.size, 22, none⟩) kb.lt).trans (by rw [kb.cell]; rfl)
  clear hm hd he
  go_enter Tryd.func35, Tryd.ntmps35
  go_wp2_with fail
  rw [← hV]
  clear hV
  go_wp2_with fail
  rw [← hV2]
  clear hV2
  refine hn.mono ?_
  rintro en w2 ⟨rfl, rfl⟩
  clear a0 a1 a2 hn
  have a3 : V2.cell? ⟨w.heap.size, 3, none⟩ = some (.int .i64 aep) := by rw [kb.cell]; rfl
  have a4 : V2.cell? ⟨w.heap.size, 4, none⟩ = some (.int .i64 anu) := by rw [kb.cell]; rfl
  have a5 : V2.cell? ⟨w.heap.size, 5, none⟩ = some (.int .i64 aab) := by rw [kb.cell]; rfl
  go_upto_region 3 with (fail)
  clear a3 a4 a5
  refine wp_region_wq V2.heap.size V2 (Below.refl _ _) (by kernel_rfl) (by kernel_rfl) ?_
  repeat (first | (refine WQ.yes (by rfl) (fun K hK => ?_); refine quiet_load_mid 27 _ rfl w.heap.size 6 rfl [.bool ag0, .slice aX0 an0 ac0, .int .i64 ae0, .bool ag1, .slice aX1 an1 ac1, .int .i64 ae1, .bool ag2, .slice aX2 an2 ac2, .int .i64 ae2, .bool ag3, .slice aX3 an3 ac3, .int .i64 ae3] _ r1 Tryd.underlying27 rfl (by kernel_rfl) (hK _ ?_); clear hK K; simp only [Act.put, lsA, lsZ, lsS]) | (refine WQ.yes (by rfl) (fun K hK => ?_); go_simp; first | (refine hK _ ?_; clear hK K) | (apply Exists.intro; refine ⟨fun _ => ?_, hK _ ?_⟩; (first | exact fhm _ | exact fhd _ | exact fhe _); clear hK K)) | (refine WQ.no (by rfl) ?_; (try simp only [Act.put, lsA, lsZ, lsS])))
  refine WQ.nil ?_
  intro pq
  have hpB := hB2.trans (pq.h.mono hB2.size)
  clear r1 s18 s19 s20 s21 s22 fhm fhd fhe
  go_wp2
  go_ret
  exact ⟨rfl, hpB⟩
set_option maxRecDepth 100000 in
set_option maxHeartbeats 16000000 in
theorem ckt3 {akd afr att aep anu aab : Int} {ag0 : Bool} {aX0 : Option Addr} {an0 ac0 : Nat} {ae0 : Int} {ag1 : Bool} {aX1 : Option Addr} {an1 ac1 : Nat} {ae1 : Int} {ag2 : Bool} {aX2 : Option Addr} {an2 ac2 : Nat} {ae2 : Int} {ag3 : Bool} {aX3 : Option Addr} {an3 ac3 : Nat} {ae3 : Int} {awa : Bool} {aD : Option Addr} {adn adc : Nat} {aeh : Bool} {ax1 ax2 : Int} {aL : Option Addr} {aln alc : Nat} (w : World) (c0 : decide (akd < 1) = false) (c1 : decide ((6 : Int) < akd) = false) (hq : badN afr = false ∧ badN att = false) (c3 : decide (aep < 0) = false) (c4 : decide ((65535 : Int) < aep) = false) (c5 : decide (anu < 0) = false) (c6 : decide ((1048575 : Int) < anu) = false) (c7 : decide (aab < 0) = false) (c8 : decide ((1048575 : Int) < aab) = false) (hm : ∀ w', Below w.heap.size w w' → Calls Tryd.prog 54 #[.agg (qgd1 ag0 aX0 an0 ac0 ae0 ag1 aX1 an1 ac1 ae1 ag2 aX2 an2 ac2 ae2 ag3 aX3 an3 ac3 ae3)] w' fun en w'' => en = .returned (.int .i64 0) ∧ Below w'.heap.size w' w'') (hd : ∀ w', Below w.heap.size w w' → Calls Tryd.prog 63 #[.slice aD adn adc] w' fun en w'' => en = .returned (.int .i64 0) ∧ Below w'.heap.size w' w'') (he : ∀ w', Below w.heap.size w w' → Calls Tryd.prog 64 #[.agg #[.bool aeh, .int .i64 ax1, .int .i64 ax2]] w' fun en w'' => en = .returned (.bool true) ∧ Below w'.heap.size w' w'') (hl : ∀ w', Below w.heap.size w w' → Calls Tryd.prog 65 #[.slice aL aln alc] w' fun en w'' => en = .returned (.bool false) ∧ Below w'.heap.size w' w'') : Calls Tryd.prog 35 #[.agg (qgd0 akd afr att aep anu aab ag0 aX0 an0 ac0 ae0 ag1 aX1 an1 ac1 ae1 ag2 aX2 an2 ac2 ae2 ag3 aX3 an3 ac3 ae3 awa aD adn adc aeh ax1 ax2 aL aln alc)] w fun en w' => en = .returned (.int .i64 100) ∧ Below w.heap.size w w' := by
  obtain ⟨V, hV⟩ : ∃ V, V = w.alloc (.cells (qgd0 akd afr att aep anu aab ag0 aX0 an0 ac0 ae0 ag1 aX1 an1 ac1 ae1 ag2 aX2 an2 ac2 ae2 ag3 aX3 an3 ac3 ae3 awa aD adn adc aeh ax1 ax2 aL aln alc) 32) := ⟨_, rfl⟩
  have hB : Below w.heap.size w V := by rw [hV]; exact (Below.refl _ _).alloc (Nat.le_refl _) _
  have ka : Blk V w.heap.size 32 (qgd0 akd afr att aep anu aab ag0 aX0 an0 ac0 ae0 ag1 aX1 an1 ac1 ae1 ag2 aX2 an2 ac2 ae2 ag3 aX3 an3 ac3 ae3 awa aD adn adc aeh ax1 ax2 aL aln alc) := by rw [hV]; exact Blk.new w _ _
  have a0 : V.cell? ⟨w.heap.size, 0, none⟩ = some (.int .u8 akd) := by rw [ka.cell]; rfl
  have a1 : V.cell? ⟨w.heap.size, 1, none⟩ = some (.int .i64 afr) := by rw [ka.cell]; rfl
  have a2 : V.cell? ⟨w.heap.size, 2, none⟩ = some (.int .i64 att) := by rw [ka.cell]; rfl
  obtain ⟨V2, hV2⟩ : ∃ V2, V2 = V.alloc (.cells #[.int .i64 afr, .int .i64 att] 3) := ⟨_, rfl⟩
  have kn : Blk V2 V.heap.size 3 #[.int .i64 afr, .int .i64 att] := by rw [hV2]; exact Blk.new V _ _
  have kb : Blk V2 w.heap.size 32 (qgd0 akd afr att aep anu aab ag0 aX0 an0 ac0 ae0 ag1 aX1 an1 ac1 ae1 ag2 aX2 an2 ac2 ae2 ag3 aX3 an3 ac3 ae3 awa aD adn adc aeh ax1 ax2 aL aln alc) := by rw [hV2]; exact ka.alloc _
  have hB2 : Below w.heap.size w V2 := by rw [hV2]; exact hB.alloc hB.size _
  have hVs : V.heap.size = w.heap.size + 1 := by rw [hV]; simp
  rw [hVs] at kn
  clear hVs
  have hn := node_any (w.heap.size + 1) afr att V2 (by rw [kn.cell]; rfl) (by rw [kn.cell]; rfl)
  have hnb : (!(badN afr || badN att)) = true := by rw [hq.1, hq.2]; rfl
  rw [hnb] at hn
  clear hq hnb kn
  have fhm := fun q : Bw V2.heap.size V2 => Calls.bw (hm q.w (hB2.trans (q.h.mono hB2.size))) (Nat.le_refl _)
  have fhd := fun q : Bw V2.heap.size V2 => Calls.bw (hd q.w (hB2.trans (q.h.mono hB2.size))) (Nat.le_refl _)
  have fhe := fun q : Bw V2.heap.size V2 => Calls.bw (he q.w (hB2.trans (q.h.mono hB2.size))) (Nat.le_refl _)
  have fhl := fun q : Bw V2.heap.size V2 => Calls.bw (hl q.w (hB2.trans (q.h.mono hB2.size))) (Nat.le_refl _)
  have r1 : ∀ q : Bw V2.heap.size V2, q.w.rangeAt w.heap.size 6 [.bool ag0, .slice aX0 an0 ac0, .int .i64 ae0, .bool ag1, .slice aX1 an1 ac1, .int .i64 ae1, .bool ag2, .slice aX2 an2 ac2, .int .i64 ae2, .bool ag3, .slice aX3 an3 ac3, .int .i64 ae3] := fun q => (kb.below q.h kb.lt).range 6 _ rfl
  have s18 : ∀ q : Bw V2.heap.size V2, q.w.cell? ⟨w.heap.size, 18, none⟩ = some (.bool awa) := fun q => (q.h.cell (p := ⟨w.heap.size, 18, none⟩) kb.lt).trans (by rw [kb.cell]; rfl)
  have s19 : ∀ q : Bw V2.heap.size V2, q.w.cell? ⟨w.heap.size, 19, none⟩ = some (.slice aD adn adc) := fun q => (q.h.cell (p := ⟨w.heap.size, 19, none⟩) kb.lt).trans (by rw [kb.cell]; rfl)
  have s20 : ∀ q : Bw V2.heap.size V2, q.w.cell? ⟨w.heap.size, 20, none⟩ = some (.bool aeh) := fun q => (q.h.cell (p := ⟨w.heap.size, 20, none⟩) kb.lt).trans (by rw [kb.cell]; rfl)
  have s21 : ∀ q : Bw V2.heap.size V2, q.w.cell? ⟨w.heap.size, 21, none⟩ = some (.int .i64 ax1) := fun q => (q.h.cell (p := ⟨w.heap.size, 21, none⟩) kb.lt).trans (by rw [kb.cell]; rfl)
  have s22 : ∀ q : Bw V2.heap.size V2, q.w.cell? ⟨w.heap.size, 22, none⟩ = some (.int .i64 ax2) := fun q => (q.h.cell (p := ⟨w.heap.size, 22, none⟩) kb.lt).trans (by rw [kb.cell]; rfl)
  have s23 : ∀ q : Bw V2.heap.size V2, q.w.cell? ⟨w.heap.size, 23, none⟩ = some (.slice aL aln alc) := fun q => (q.h.cell (p := ⟨w.heap.size, 23, none⟩) kb.lt).trans (by rw [kb.cell]; rfl)
  clear hm hd he hl
  go_enter Tryd.func35, Tryd.ntmps35
  go_wp2_with fail
  rw [← hV]
  clear hV
  go_wp2_with fail
  rw [← hV2]
  clear hV2
  refine hn.mono ?_
  rintro en w2 ⟨rfl, rfl⟩
  clear a0 a1 a2 hn
  have a3 : V2.cell? ⟨w.heap.size, 3, none⟩ = some (.int .i64 aep) := by rw [kb.cell]; rfl
  have a4 : V2.cell? ⟨w.heap.size, 4, none⟩ = some (.int .i64 anu) := by rw [kb.cell]; rfl
  have a5 : V2.cell? ⟨w.heap.size, 5, none⟩ = some (.int .i64 aab) := by rw [kb.cell]; rfl
  go_upto_region 3 with (fail)
  clear a3 a4 a5
  refine wp_region_wq V2.heap.size V2 (Below.refl _ _) (by kernel_rfl) (by kernel_rfl) ?_
  repeat (first | (refine WQ.yes (by rfl) (fun K hK => ?_); refine quiet_load_mid 27 _ rfl w.heap.size 6 rfl [.bool ag0, .slice aX0 an0 ac0, .int .i64 ae0, .bool ag1, .slice aX1 an1 ac1, .int .i64 ae1, .bool ag2, .slice aX2 an2 ac2, .int .i64 ae2, .bool ag3, .slice aX3 an3 ac3, .int .i64 ae3] _ r1 Tryd.underlying27 rfl (by kernel_rfl) (hK _ ?_); clear hK K; simp only [Act.put, lsA, lsZ, lsS]) | (refine WQ.yes (by rfl) (fun K hK => ?_); go_simp; first | (refine hK _ ?_; clear hK K) | (apply Exists.intro; refine ⟨fun _ => ?_, hK _ ?_⟩; (first | exact fhm _ | exact fhd _ | exact fhe _ | exact fhl _); clear hK K)) | (refine WQ.no (by rfl) ?_; (try simp only [Act.put, lsA, lsZ, lsS])))
  refine WQ.nil ?_
  intro pq
  have hpB := hB2.trans (pq.h.mono hB2.size)
  clear r1 s18 s19 s20 s21 s22 s23 fhm fhd fhe fhl
  go_wp2
  go_ret
  exact ⟨rfl, hpB⟩
set_option maxRecDepth 100000 in
set_option maxHeartbeats 16000000 in
theorem ckt4 {akd afr att aep anu aab : Int} {ag0 : Bool} {aX0 : Option Addr} {an0 ac0 : Nat} {ae0 : Int} {ag1 : Bool} {aX1 : Option Addr} {an1 ac1 : Nat} {ae1 : Int} {ag2 : Bool} {aX2 : Option Addr} {an2 ac2 : Nat} {ae2 : Int} {ag3 : Bool} {aX3 : Option Addr} {an3 ac3 : Nat} {ae3 : Int} {awa : Bool} {aD : Option Addr} {adn adc : Nat} {aeh : Bool} {ax1 ax2 : Int} {aL : Option Addr} {aln alc : Nat} (w : World) (c0 : decide (akd < 1) = false) (c1 : decide ((6 : Int) < akd) = false) (hq : badN afr = false ∧ badN att = false) (c3 : decide (aep < 0) = false) (c4 : decide ((65535 : Int) < aep) = false) (c5 : decide (anu < 0) = false) (c6 : decide ((1048575 : Int) < anu) = false) (c7 : decide (aab < 0) = false) (c8 : decide ((1048575 : Int) < aab) = false) (hm : ∀ w', Below w.heap.size w w' → Calls Tryd.prog 54 #[.agg (qgd1 ag0 aX0 an0 ac0 ae0 ag1 aX1 an1 ac1 ae1 ag2 aX2 an2 ac2 ae2 ag3 aX3 an3 ac3 ae3)] w' fun en w'' => en = .returned (.int .i64 0) ∧ Below w'.heap.size w' w'') (hd : ∀ w', Below w.heap.size w w' → Calls Tryd.prog 63 #[.slice aD adn adc] w' fun en w'' => en = .returned (.int .i64 0) ∧ Below w'.heap.size w' w'') (he : ∀ w', Below w.heap.size w w' → Calls Tryd.prog 64 #[.agg #[.bool aeh, .int .i64 ax1, .int .i64 ax2]] w' fun en w'' => en = .returned (.bool true) ∧ Below w'.heap.size w' w'') (hl : ∀ w', Below w.heap.size w w' → Calls Tryd.prog 65 #[.slice aL aln alc] w' fun en w'' => en = .returned (.bool true) ∧ Below w'.heap.size w' w'') (U : Array Value) (Q : Bool) (E : Int) (hE : (if Q = true then 0 else 100) = E) (hu : ∀ w', Below w.heap.size w w' → Calls Tryd.prog 67 #[.agg (qgd0 akd afr att aep anu aab ag0 aX0 an0 ac0 ae0 ag1 aX1 an1 ac1 ae1 ag2 aX2 an2 ac2 ae2 ag3 aX3 an3 ac3 ae3 awa aD adn adc aeh ax1 ax2 aL aln alc)] w' fun en w'' => en = .returned (.agg U) ∧ Below w'.heap.size w' w'') (hs : ∀ w', Below w.heap.size w w' → Calls Tryd.prog 66 #[.agg (qgd0 akd afr att aep anu aab ag0 aX0 an0 ac0 ae0 ag1 aX1 an1 ac1 ae1 ag2 aX2 an2 ac2 ae2 ag3 aX3 an3 ac3 ae3 awa aD adn adc aeh ax1 ax2 aL aln alc), .agg U] w' fun en w'' => en = .returned (.bool Q) ∧ Below w'.heap.size w' w'') : Calls Tryd.prog 35 #[.agg (qgd0 akd afr att aep anu aab ag0 aX0 an0 ac0 ae0 ag1 aX1 an1 ac1 ae1 ag2 aX2 an2 ac2 ae2 ag3 aX3 an3 ac3 ae3 awa aD adn adc aeh ax1 ax2 aL aln alc)] w fun en w' => en = .returned (.int .i64 E) ∧ Below w.heap.size w w' := by
  obtain ⟨V, hV⟩ : ∃ V, V = w.alloc (.cells (qgd0 akd afr att aep anu aab ag0 aX0 an0 ac0 ae0 ag1 aX1 an1 ac1 ae1 ag2 aX2 an2 ac2 ae2 ag3 aX3 an3 ac3 ae3 awa aD adn adc aeh ax1 ax2 aL aln alc) 32) := ⟨_, rfl⟩
  have hB : Below w.heap.size w V := by rw [hV]; exact (Below.refl _ _).alloc (Nat.le_refl _) _
  have ka : Blk V w.heap.size 32 (qgd0 akd afr att aep anu aab ag0 aX0 an0 ac0 ae0 ag1 aX1 an1 ac1 ae1 ag2 aX2 an2 ac2 ae2 ag3 aX3 an3 ac3 ae3 awa aD adn adc aeh ax1 ax2 aL aln alc) := by rw [hV]; exact Blk.new w _ _
  have a0 : V.cell? ⟨w.heap.size, 0, none⟩ = some (.int .u8 akd) := by rw [ka.cell]; rfl
  have a1 : V.cell? ⟨w.heap.size, 1, none⟩ = some (.int .i64 afr) := by rw [ka.cell]; rfl
  have a2 : V.cell? ⟨w.heap.size, 2, none⟩ = some (.int .i64 att) := by rw [ka.cell]; rfl
  obtain ⟨V2, hV2⟩ : ∃ V2, V2 = V.alloc (.cells #[.int .i64 afr, .int .i64 att] 3) := ⟨_, rfl⟩
  have kn : Blk V2 V.heap.size 3 #[.int .i64 afr, .int .i64 att] := by rw [hV2]; exact Blk.new V _ _
  have kb : Blk V2 w.heap.size 32 (qgd0 akd afr att aep anu aab ag0 aX0 an0 ac0 ae0 ag1 aX1 an1 ac1 ae1 ag2 aX2 an2 ac2 ae2 ag3 aX3 an3 ac3 ae3 awa aD adn adc aeh ax1 ax2 aL aln alc) := by rw [hV2]; exact ka.alloc _
  have hB2 : Below w.heap.size w V2 := by rw [hV2]; exact hB.alloc hB.size _
  have hVs : V.heap.size = w.heap.size + 1 := by rw [hV]; simp
  rw [hVs] at kn
  clear hVs
  have hn := node_any (w.heap.size + 1) afr att V2 (by rw [kn.cell]; rfl) (by rw [kn.cell]; rfl)
  have hnb : (!(badN afr || badN att)) = true := by rw [hq.1, hq.2]; rfl
  rw [hnb] at hn
  clear hq hnb kn
  have fhm := fun q : Bw V2.heap.size V2 => Calls.bw (hm q.w (hB2.trans (q.h.mono hB2.size))) (Nat.le_refl _)
  have fhd := fun q : Bw V2.heap.size V2 => Calls.bw (hd q.w (hB2.trans (q.h.mono hB2.size))) (Nat.le_refl _)
  have fhe := fun q : Bw V2.heap.size V2 => Calls.bw (he q.w (hB2.trans (q.h.mono hB2.size))) (Nat.le_refl _)
  have fhl := fun q : Bw V2.heap.size V2 => Calls.bw (hl q.w (hB2.trans (q.h.mono hB2.size))) (Nat.le_refl _)
  have fhu := fun q : Bw V2.heap.size V2 => Calls.bw (hu q.w (hB2.trans (q.h.mono hB2.size))) (Nat.le_refl _)
  have fhs := fun q : Bw V2.heap.size V2 => Calls.bw (hs q.w (hB2.trans (q.h.mono hB2.size))) (Nat.le_refl _)
  have r1 : ∀ q : Bw V2.heap.size V2, q.w.rangeAt w.heap.size 6 [.bool ag0, .slice aX0 an0 ac0, .int .i64 ae0, .bool ag1, .slice aX1 an1 ac1, .int .i64 ae1, .bool ag2, .slice aX2 an2 ac2, .int .i64 ae2, .bool ag3, .slice aX3 an3 ac3, .int .i64 ae3] := fun q => (kb.below q.h kb.lt).range 6 _ rfl
  have r2 : ∀ q : Bw V2.heap.size V2, q.w.rangeAt w.heap.size 0 [.int .u8 akd, .int .i64 afr, .int .i64 att, .int .i64 aep, .int .i64 anu, .int .i64 aab, .bool ag0, .slice aX0 an0 ac0, .int .i64 ae0, .bool ag1, .slice aX1 an1 ac1, .int .i64 ae1, .bool ag2, .slice aX2 an2 ac2, .int .i64 ae2, .bool ag3, .slice aX3 an3 ac3, .int .i64 ae3, .bool awa, .slice aD adn adc, .bool aeh, .int .i64 ax1, .int .i64 ax2, .slice aL aln alc] := fun q => (kb.below q.h kb.lt).range 0 _ rfl
  have s18 : ∀ q : Bw V2.heap.size V2, q.w.cell? ⟨w.heap.size, 18, none⟩ = some (.bool awa) := fun q => (q.h.cell (p := ⟨w.heap.size, 18, none⟩) kb.lt).trans (by rw [kb.cell]; rfl)
  have s19 : ∀ q : Bw V2.heap.size V2, q.w.cell? ⟨w.heap.size, 19, none⟩ = some (.slice aD adn adc) := fun q => (q.h.cell (p := ⟨w.heap.size, 19, none⟩) kb.lt).trans (by rw [kb.cell]; rfl)
  have s20 : ∀ q : Bw V2.heap.size V2, q.w.cell? ⟨w.heap.size, 20, none⟩ = some (.bool aeh) := fun q => (q.h.cell (p := ⟨w.heap.size, 20, none⟩) kb.lt).trans (by rw [kb.cell]; rfl)
  have s21 : ∀ q : Bw V2.heap.size V2, q.w.cell? ⟨w.heap.size, 21, none⟩ = some (.int .i64 ax1) := fun q => (q.h.cell (p := ⟨w.heap.size, 21, none⟩) kb.lt).trans (by rw [kb.cell]; rfl)
  have s22 : ∀ q : Bw V2.heap.size V2, q.w.cell? ⟨w.heap.size, 22, none⟩ = some (.int .i64 ax2) := fun q => (q.h.cell (p := ⟨w.heap.size, 22, none⟩) kb.lt).trans (by rw [kb.cell]; rfl)
  have s23 : ∀ q : Bw V2.heap.size V2, q.w.cell? ⟨w.heap.size, 23, none⟩ = some (.slice aL aln alc) := fun q => (q.h.cell (p := ⟨w.heap.size, 23, none⟩) kb.lt).trans (by rw [kb.cell]; rfl)
  clear hm hd he hl hu hs
  go_enter Tryd.func35, Tryd.ntmps35
  go_wp2_with fail
  rw [← hV]
  clear hV
  go_wp2_with fail
  rw [← hV2]
  clear hV2
  refine hn.mono ?_
  rintro en w2 ⟨rfl, rfl⟩
  clear a0 a1 a2 hn
  have a3 : V2.cell? ⟨w.heap.size, 3, none⟩ = some (.int .i64 aep) := by rw [kb.cell]; rfl
  have a4 : V2.cell? ⟨w.heap.size, 4, none⟩ = some (.int .i64 anu) := by rw [kb.cell]; rfl
  have a5 : V2.cell? ⟨w.heap.size, 5, none⟩ = some (.int .i64 aab) := by rw [kb.cell]; rfl
  go_upto_region 3 with (fail)
  clear a3 a4 a5
  refine wp_region_wq V2.heap.size V2 (Below.refl _ _) (by kernel_rfl) (by kernel_rfl) ?_
  repeat (first | (refine WQ.yes (by rfl) (fun K hK => ?_); refine quiet_load_mid 27 _ rfl w.heap.size 6 rfl [.bool ag0, .slice aX0 an0 ac0, .int .i64 ae0, .bool ag1, .slice aX1 an1 ac1, .int .i64 ae1, .bool ag2, .slice aX2 an2 ac2, .int .i64 ae2, .bool ag3, .slice aX3 an3 ac3, .int .i64 ae3] _ r1 Tryd.underlying27 rfl (by kernel_rfl) (hK _ ?_); clear hK K; simp only [Act.put, lsA, lsZ, lsS]) | (refine WQ.yes (by rfl) (fun K hK => ?_); refine quiet_load_mid 32 _ rfl w.heap.size 0 rfl [.int .u8 akd, .int .i64 afr, .int .i64 att, .int .i64 aep, .int .i64 anu, .int .i64 aab, .bool ag0, .slice aX0 an0 ac0, .int .i64 ae0, .bool ag1, .slice aX1 an1 ac1, .int .i64 ae1, .bool ag2, .slice aX2 an2 ac2, .int .i64 ae2, .bool ag3, .slice aX3 an3 ac3, .int .i64 ae3, .bool awa, .slice aD adn adc, .bool aeh, .int .i64 ax1, .int .i64 ax2, .slice aL aln alc] _ r2 Tryd.underlying32 rfl (by kernel_rfl) (hK _ ?_); clear hK K; simp only [Act.put, lsA, lsZ, lsS]) | (refine WQ.yes (by rfl) (fun K hK => ?_); go_simp; first | (refine hK _ ?_; clear hK K) | (apply Exists.intro; refine ⟨fun _ => ?_, hK _ ?_⟩; (first | exact fhm _ | exact fhd _ | exact fhe _ | exact fhl _ | exact fhu _ | exact fhs _); clear hK K)) | (refine WQ.no (by rfl) ?_; (try simp only [Act.put, lsA, lsZ, lsS])))
  refine WQ.nil ?_
  intro pq
  have hpB := hB2.trans (pq.h.mono hB2.size)
  clear r1 r2 s18 s19 s20 s21 s22 s23 fhm fhd fhe fhl fhu fhs
  cases Q
  · obtain rfl : (100 : Int) = E := hE
    go_wp2
    go_ret
    exact ⟨rfl, hpB⟩
  · obtain rfl : (0 : Int) = E := hE
    go_wp2
    go_ret
    exact ⟨rfl, hpB⟩
end Go.Proofs.YtdmjdpaehnhdoaaDoor
