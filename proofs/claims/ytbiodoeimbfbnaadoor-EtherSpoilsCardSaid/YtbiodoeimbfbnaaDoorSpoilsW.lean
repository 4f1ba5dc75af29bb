/- Ether's Door: the walk of the law EtherSpoils. -/
import Derived.Test.YtbiodoeimbfbnaaDoorL
namespace Go.Proofs.YtbiodoeimbfbnaaDoor
open Go.ChangeShapes Go.WideShapes Go.ChangeAt Go.RowKit
set_option linter.unusedSimpArgs false
set_option linter.unusedVariables false
set_option maxRecDepth 100000 in
set_option maxHeartbeats 8000000 in
theorem EtherSpoils.walk (A : Option Addr) (n c : Nat) (l : List Cp) (i a : Int) (m : Nat) (hmx : n ≤ maxLen) (hm32 : m < 4294967296) (hby : ∀ x ∈ l, ∀ b ∈ x.txt, b < 256) (w : World) (h1 : Cps w w.heap.size A n l) (hT : Tab w) :
    Calls Tryd.prog 3 #[.slice A n c, .int .i64 i, .int .i64 a, .int .u32 (m : Int)] w fun e w' => e = .returned (.bool true) ∧ Below w.heap.size w w' := by
  have ln := cps_len h1
  have hgr := great_any A n c l hmx w h1
  have g1 := Lib.hid h1
  have gT := Lib.hid hT
  have gby := Lib.hid hby
  clear h1 hT hby
  go_enter Tryd.func3, Tryd.ntmps3
  go_wp2_with fail
  refine hgr.mono ?_
  rintro e w0 ⟨G, rfl, rfl, hG⟩
  cases G with
  | true =>
    go_wp2
    go_ret
    exact ⟨rfl, Below.refl _ _⟩
  | false =>
    obtain ⟨h20, ht5⟩ := hG rfl
    rw [ln] at h20
    have hn : n ≤ 1000 := by omega
    go_wp2_with fail
    refine (rtwin_any A n c l hn (fun x hx => by have := ht5 x hx; omega) w g1.out).mono ?_
    rintro e w1 ⟨Ao, co, rfl, hco, ho, _, hb1, _⟩
    have r1 := (g1.out.below hb1).more hb1.size
    have t1 := gT.out.below hb1 gT.out.2
    go_wp2_with fail
    refine (pspoil_any Ao n co l m hn hm32 gby.out w1 t1 ho i a).mono ?_
    have hst := spl_txt (i := i) (a := a) (m := m) ht5
    have hsb := spl_bytes (i := i) (a := a) (m := m) gby.out
    have hsl := spl_len l i a m
    obtain ⟨R, hR⟩ : ∃ R, splS l i a m = R := ⟨_, rfl⟩
    rw [hR] at hst hsb hsl ⊢
    have hR' := Lib.hid hR
    clear hR
    obtain ⟨S, E⟩ := R
    simp only at hst hsb hsl
    obtain ⟨q, hq⟩ : ∃ q, S.length = q := ⟨_, rfl⟩
    rw [hq] at hsl
    rintro e w2 ⟨As, cs, rfl, hcs, hs, hws, hb2⟩
    simp only [hq] at hcs hs hws ⊢
    have r2 := (r1.below hb2).more hb2.size
    have o2 := (ho.below hb2).more hb2.size
    go_wp2_with fail
    refine (rspoil_any A n c l i a m hn hm32 gby.out w2 r2).mono ?_
    rw [hR'.out]
    rintro e w3 ⟨At, ct, rfl, hs3, hb3⟩
    simp only [hq] at hs3 ⊢
    have r3 := (r2.below hb3).more hb3.size
    have o3 := ((ho.below hb2).below (hb3.mono hb2.size))
    have s3 := (hs.below hb3).more hb3.size
    have w3' := hws.below hb3
    go_wp2_with fail
    refine (rsame_any As At q q cs ct S S (by omega) (by omega) (fun x hx => by have := hst x hx; omega) (fun x hx => by have := hst x hx; omega) hsb hsb true (by simp) w3 s3 hs3).mono ?_
    rintro e w4 ⟨rfl, hb4⟩
    have w4' := w3'.below hb4
    have r4 := (r3.below hb4)
    have o4 := o3.below (hb4.mono (Nat.le_trans hb2.size hb3.size))
    go_wp2_with fail
    refine (spoil_any _ As q cs S (by omega) (fun x hx => by have := hst x hx; omega) w4 w4').mono ?_
    rintro e w5 ⟨rfl, hf⟩
    have hb5 : Below w1.heap.size w4 w5 := hf.below (fun g hg => hg.1)
    have hB2 := hb1.trans (hb2.mono hb1.size)
    have hB3 := hB2.trans (hb3.mono hB2.size)
    have hB4 := hB3.trans (hb4.mono hB3.size)
    have hB5 := hB4.trans (hb5.mono hb1.size)
    have r5 := (g1.out.below hB5).more hB5.size
    have s15 : w1.heap.size ≤ w5.heap.size := by have := hb2.size; have := hb3.size; have := hb4.size; have := hb5.size; omega
    have o5 := (o4.below hb5).more s15
    clear hws w3' w4' o2 o3 o4 r1 r2 r3 r4 s3 hs hs3 ho hf hb2 hb3 hb4 hb5 hB2 hB3 hB4 hb1
    go_wp2_with fail
    refine (rsame_any Ao A n n co c l l (by omega) (by omega) (fun x hx => by have := ht5 x hx; omega) (fun x hx => by have := ht5 x hx; omega) gby.out gby.out true (by simp) w5 o5 r5).mono ?_
    rintro e w6 ⟨rfl, hb6⟩
    have hB6 := hB5.trans (hb6.mono hB5.size)
    go_wp2
    go_ret
    exact ⟨rfl, hB6⟩
end Go.Proofs.YtbiodoeimbfbnaaDoor
