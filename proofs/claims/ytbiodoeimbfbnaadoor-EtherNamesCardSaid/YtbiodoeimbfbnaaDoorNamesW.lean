/- Ether's Door: the walk of the law EtherNames. -/
import Derived.Test.YtbiodoeimbfbnaaDoorNamesP
import Derived.Deep.QuietTactic
import Derived.BigQuiet
namespace Go.Proofs.YtbiodoeimbfbnaaDoor
open Go.ChangeShapes Go.WideShapes Go.ChangeAt Go.RowKit
set_option linter.unusedSimpArgs false
set_option linter.unusedVariables false
theorem e15 (hce : chkE (oneL 16) = 0) (hl : (oneL 16)[15]? = some ⟨15, 1, [1, 2], false⟩) : dblS (oneL 16) 15 = ([], 9) := (dbl_in (k := 15) hce hl).trans (snd_full hce (by decide) (oneL_len 16))
theorem e16 (hce : chkE (oneL 16) = 0) : dblS (oneL 16) 16 = ([], 2) := dbl_out (i := 16) hce (Or.inr (by rw [oneL_len]; decide))
theorem s1 (hce : chkE (oneL 16) = 0) (hl2 : (oneL 16)[2]? = some ⟨2, 1, [1, 2], false⟩) : splS (oneL 16) 2 15 1 = ((oneL 16).set 2 ⟨2, 1, [1, 130], true⟩, 0) := (spl_in (k := 2) hce hl2).trans (by decide)
theorem s2 {S : List Cp} (hce : chkE S = 0) (hl2 : S[2]? = some ⟨2, 1, [1, 130], true⟩) : splS S 2 15 1 = ([], 12) := (spl_in (k := 2) hce hl2).trans (by rw [if_pos (by decide), if_pos rfl])
theorem s3 (hce : chkE (oneL 16) = 0) (hl2 : (oneL 16)[2]? = some ⟨2, 1, [1, 2], false⟩) : splS (oneL 16) 2 15 2 = ([], 2) := (spl_in (k := 2) hce hl2).trans (by rw [if_neg (by decide)])
theorem s4 (hce : chkE (oneL 16) = 0) (hl2 : (oneL 16)[2]? = some ⟨2, 1, [1, 2], false⟩) : splS (oneL 16) 2 0 0 = ([], 2) := (spl_in (k := 2) hce hl2).trans (by rw [if_neg (by decide)])
theorem l16 : oneL 16 = oneL 16 := rfl
set_option maxRecDepth 100000 in
set_option maxHeartbeats 16000000 in
theorem EtherNames.walk (w : World) (hT : Tab w) : Calls Tryd.prog 4 #[] w fun e w' => e = .returned (.bool true) ∧ Below w.heap.size w w' := by
  obtain ⟨i0, hi0, hz0, hz1, hz2⟩ := info_parts infoC
  have hb0 := Below.refl w.heap.size w
  have hT0 := Lib.hid hT
  go_enter Tryd.func4, Tryd.ntmps4
  go_wp2
  go_loopw [1, 2] (fun l t wr => ∃ (k : Nat) (A : Option Addr) (c K : Nat), k ≤ 16 ∧ t = .int .i64 (k : Int) ∧ l = .slice A k c ∧ w.heap.size ≤ K ∧ K ≤ wr.heap.size ∧ Hid (Acc wr K (.slice A k c) k (oneL k)) ∧ Hid (k ≤ c) ∧ Below w.heap.size w wr) (fun _ t _ => 16 - (intOf t).toNat)
  case atStart => exact ⟨0, none, 0, w.heap.size, by omega, rfl, rfl, Nat.le_refl _, Nat.le_refl _, Lib.hid (acc_nil _ _), Lib.hid (by omega), hb0⟩
  case round =>
    obtain ⟨k, A, c, K, hk, rfl, rfl, hK, hK2, hac, hkc, hB⟩ := hrel
    by_cases hlt : k < 16
    · have i1 : (k : Int) < 16 := by omega
      go_wp2_with fail
      refine (one_any (k : Int) wr).mono ?_
      rintro en w1 ⟨X, rfl, r1, hb1⟩
      have hB1 := hB.trans (hb1.mono hB.size)
      have hc1 := acc_cps (hac.out.below hb1)
      have hs := send_acc A k c (oneL k) (by omega) (k : Int) 1 [1, 2] false X 2 2 rfl (by omega) w1 hc1 r1 (oneL_chk hk) (by unfold mayC; exact decide_eq_true (by omega)) (by omega)
      rw [show oneL k ++ [(⟨(k : Int), 1, [1, 2], false⟩ : Cp)] = oneL (k + 1) from oneL_succ k] at hs
      clear hc1 r1
      go_wp2_with fail
      refine hs.mono ?_
      rintro en w2 ⟨Ao, co, rfl, hco, hac2, hb2⟩
      have hB2 := hB1.trans (hb2.mono hB1.size)
      have gac := Lib.hid hac2
      have gco := Lib.hid hco
      have hK3 := hb2.size
      have hK4 := hB1.size
      clear hs hac2 hco hac hkc
      go_wp2
      go_roundw
      case rel => exact ⟨k + 1, Ao, co, w1.heap.size, by omega, by go_num, rfl, hK4, hK3, gac, gco, hB2⟩
      case measure => simp [intOf]; omega
    · obtain rfl : k = 16 := by omega
      replace hac := acc_base_le hac.out hK
      replace hkc := hkc.out
      have hln := oneL_len 16
      have hce := oneL_chk (k := 16) (by omega)
      have hT := hT.below hB hT.2
      have hl2 : (oneL 16)[2]? = some ⟨2, 1, [1, 2], false⟩ := by decide
      have hl15 : (oneL 16)[15]? = some ⟨15, 1, [1, 2], false⟩ := by decide
      have hby : ∀ x ∈ oneL 16, ∀ b ∈ x.txt, b < 256 := by decide
      have g := Lib.hid (And.intro hln (And.intro hce (And.intro hl2 (And.intro hl15 hby))))
      clear hK hK2 hlt hk hln hce hl2 hl15 hby hb0
      have hb0 := hB
      clear hB
      go_wp2_with fail
      refine (one_any 16 wr).mono ?_
      rintro en v1 ⟨X1, rfl, r1, hb⟩
      replace hb0 := hb0.trans (hb.mono hb0.size)
      replace hT := hT.below hb hT.2
      replace hac := hac.below hb
      clear hb
      go_wp2_with fail
      have hsd := send_any A 16 c (oneL 16) (by omega) 16 1 [1, 2] false X1 2 2 rfl (by omega) v1 (acc_cps hac) r1
      rw [snd_full g.out.2.1 (show mayOf ⟨16, 1, [1, 2], false⟩ = true by decide) g.out.1] at hsd
      refine hsd.mono ?_
      rintro en q1 ⟨_, _, rfl, _, _, _, hb⟩
      simp only [List.length_nil]
      clear hsd
      replace hb0 := hb0.trans (hb.mono hb0.size)
      replace hT := hT.below hb hT.2
      replace hac := hac.below hb
      clear hb
      clear r1
      go_wp2_with fail
      have hsd := double_any A 16 c (oneL 16) (by omega) 15 _ (acc_cps hac)
      rw [e15 g.out.2.1 g.out.2.2.2.1] at hsd
      refine hsd.mono ?_
      rintro en q2 ⟨_, _, rfl, _, _, _, hb⟩
      simp only [List.length_nil]
      clear hsd
      replace hb0 := hb0.trans (hb.mono hb0.size)
      replace hT := hT.below hb hT.2
      replace hac := hac.below hb
      clear hb
      go_wp2_with fail
      have hsd := double_any A 16 c (oneL 16) (by omega) 16 _ (acc_cps hac)
      rw [e16 g.out.2.1] at hsd
      refine hsd.mono ?_
      rintro en q3 ⟨_, _, rfl, _, _, _, hb⟩
      simp only [List.length_nil]
      clear hsd
      replace hb0 := hb0.trans (hb.mono hb0.size)
      replace hT := hT.below hb hT.2
      replace hac := hac.below hb
      clear hb
      go_wp2_with fail
      have hsd := send_any A 16 c (oneL 16) (by omega) 0 0 [] false none 0 0 rfl (by omega) _ (acc_cps hac) Reads.none_
      rw [snd_bad g.out.2.1 (show mayOf ⟨0, 0, [], false⟩ = false by decide)] at hsd
      refine hsd.mono ?_
      rintro en q4 ⟨_, _, rfl, _, _, _, hb⟩
      simp only [List.length_nil]
      clear hsd
      replace hb0 := hb0.trans (hb.mono hb0.size)
      replace hT := hT.below hb hT.2
      replace hac := hac.below hb
      clear hb
      go_wp2_with fail
      have hsp := pspoil_any A 16 c (oneL 16) 1 (by omega) (by omega) g.out.2.2.2.2 _ hT (acc_cps hac) 2 15
      rw [s1 g.out.2.1 g.out.2.2.1] at hsp
      obtain ⟨S, hS⟩ : ∃ S, (oneL 16).set 2 ⟨2, 1, [1, 130], true⟩ = S := ⟨_, rfl⟩
      rw [hS] at hsp
      have hSl : S.length = 16 := by rw [← hS, List.length_set, g.out.1]
      have hSc : chkE S = 0 := by rw [← hS]; decide
      have hS2 : S[2]? = some ⟨2, 1, [1, 130], true⟩ := by rw [← hS]; decide
      have hSb : ∀ x ∈ S, ∀ b ∈ x.txt, b < 256 := by rw [← hS]; decide
      refine hsp.mono ?_
      rintro en vs ⟨As, cs, rfl, hcs, os, _, hb⟩
      simp only [hSl] at hcs os ⊢
      replace hb0 := hb0.trans (hb.mono hb0.size)
      replace hT := hT.below hb hT.2
      replace hac := hac.below hb
      clear hb
      have gs := Lib.hid (And.intro hSl (And.intro hSc (And.intro hS2 hSb)))
      clear hsp hS hSl hSc hS2 hSb
      go_wp2_with fail
      have hsp := pspoil_any As 16 cs S 1 (by omega) (by omega) gs.out.2.2.2 _ hT os 2 15
      rw [s2 gs.out.2.1 gs.out.2.2.1] at hsp
      refine hsp.mono ?_
      rintro en vs2 ⟨_, _, rfl, _, _, _, hb⟩
      simp only [List.length_nil]
      clear hsp os gs
      replace hb0 := hb0.trans (hb.mono hb0.size)
      replace hT := hT.below hb hT.2
      replace hac := hac.below hb
      clear hb
      go_wp2_with fail
      have hsp := pspoil_any A 16 c (oneL 16) 2 (by omega) (by omega) g.out.2.2.2.2 _ hT (acc_cps hac) 2 15
      rw [s3 g.out.2.1 g.out.2.2.1] at hsp
      refine hsp.mono ?_
      rintro en vs3 ⟨_, _, rfl, _, _, _, hb⟩
      simp only [List.length_nil]
      clear hsp
      replace hb0 := hb0.trans (hb.mono hb0.size)
      replace hT := hT.below hb hT.2
      replace hac := hac.below hb
      clear hb
      go_wp2_with fail
      have hsp := pspoil_any A 16 c (oneL 16) 0 (by omega) (by omega) g.out.2.2.2.2 _ hT (acc_cps hac) 2 0
      rw [s4 g.out.2.1 g.out.2.2.1] at hsp
      refine hsp.mono ?_
      rintro en vs4 ⟨_, _, rfl, _, _, _, hb⟩
      simp only [List.length_nil]
      clear hsp
      replace hb0 := hb0.trans (hb.mono hb0.size)
      replace hT := hT.below hb hT.2
      replace hac := hac.below hb
      clear hb
      go_wp2_with fail
      refine (one_any 1 vs4).mono ?_
      rintro en v2 ⟨X2, rfl, r2, hb⟩
      replace hb0 := hb0.trans (hb.mono hb0.size)
      replace hT := hT.below hb hT.2
      replace hac := hac.below hb
      clear hb
      clear r2
      obtain ⟨os, hos, hown, _, _⟩ := hac
      clear hos g
      go_wp2_with (at_builtin; refine wpList_push rfl (.tmp 81) (.tmp 83) 22 rfl w.heap.size 37 i0 _ 4 48 Tryd.underlying22 hi0 hz0 hz1 hz2 rfl (by omega) hb0 (Nat.le_refl _) (.slice A 16 c) 16 _ rfl hown [.int .i64 1, .int .i64 1, .slice X2 2 2, .bool false] rfl (one4 _ _ _ _ _ _) rfl (by unfold maxLen; omega) (by omega) ?_; intro v5 w5 ho5 hb5; obtain ⟨A5, c5, rfl, _, _⟩ := own_slice ho5; clear ho5 hb0 hown)
      refine (take_many A5 17 c5 (by omega) 0 w5).mono ?_
      rintro en w6 ⟨rfl, hb6⟩
      have hb7 := hb5.trans (hb6.mono hb5.size)
      have hb8 := hb7.alloc hb7.size (.cells #[.int .i64 0, .int .i64 0, .slice none 0 0, .bool false] 37)
      have hal := alive_any _ (hT0.out.below hb8 hT0.out.2)
      go_wp2_with fail
      refine hal.mono ?_
      rintro en w9 ⟨rfl, hb9⟩
      have hb10 := hb8.trans (hb9.mono hb8.size)
      clear hal
      go_wp2
      go_ret
      exact ⟨rfl, hb10⟩
end Go.Proofs.YtbiodoeimbfbnaaDoor
