/- Timer: the walk of TimerTells -/
import Derived.Test.YthageikchniahaaLK
namespace Go.Proofs.Ythageikchniahaa
open Go.ChangeShapes Go.WideShapes Go.ChangeAt Go.RowKit
set_option linter.unusedSimpArgs false
set_option linter.unusedVariables false

set_option maxRecDepth 100000 in
set_option maxHeartbeats 32000000 in
theorem TimerTells.walk (A : Option Addr) (n c : Nat) (l : List Tm) (x y now N : Int) (w : World) (h : Tms w w.heap.size A n l) : Calls Try.prog 7 #[.slice A n c, .agg #[.int .i64 x, .int .i64 y], .int .i64 now, .int .i64 N] w fun en w' => en = .returned (.bool true) ∧ Below w.heap.size w w' := by
  have gl := Lib.hid h.1
  obtain ⟨i0, hi0, hz0, hz1, hz2⟩ := info_parts infoT
  obtain ⟨V, hV⟩ : ∃ V, V = w.alloc (.cells #[.int .i64 x, .int .i64 y] 35) := ⟨_, rfl⟩
  have hB0 : Below w.heap.size w V := by rw [hV]; exact (Below.refl _ _).alloc (Nat.le_refl _) _
  have kb : Blk V w.heap.size 35 #[.int .i64 x, .int .i64 y] := by rw [hV]; exact Blk.new w _ _
  have gbx : Hid (∀ v', Below V.heap.size V v' → v'.cell? ⟨w.heap.size, 0, none⟩ = some (.int .i64 x) ∧ v'.cell? ⟨w.heap.size, 1, none⟩ = some (.int .i64 y)) := Lib.hid (fun v' hb => ⟨by rw [(kb.below hb kb.lt).cell]; rfl, by rw [(kb.below hb kb.lt).cell]; rfl⟩)
  have gL : Hid (∀ v', Below V.heap.size V v' → Tms v' v'.heap.size A n l) := Lib.hid (fun v' hb => h.go (hB0.trans (hb.mono hB0.size)) (Nat.le_trans hB0.size hb.size))
  clear kb h
  obtain ⟨G, hG⟩ : ∃ G, grT n = G := ⟨_, rfl⟩
  have hg := rgreat_any A n c V G hG
  cases G with
  | true =>
    clear hG gL gbx
    go_enter Try.func7, Try.ntmps7
    go_wp2_with fail
    rw [← hV]
    refine hg.mono ?_
    rintro en w1 ⟨rfl, hw1⟩
    obtain rfl := hw1.symm
    clear hV
    go_wp2
    go_ret
    exact ⟨rfl, hB0⟩
  | false =>
    have hn : n ≤ 1028 := by
      unfold grT at hG
      simp at hG
      omega
    clear hG
    have hsP : ∀ Ao co w', Tms w' w'.heap.size Ao n l → Calls Try.prog 15 #[.slice Ao n co, .agg #[.int .i64 x, .int .i64 y]] w' (RowPost w' (setO l (x, y)) (setE l (x, y))) := fun Ao co w' ht => set_any Ao n co l x y (by omega) w' ht
    have hsR : ∀ w', Tms w' w'.heap.size A n l → Calls Try.prog 20 #[.slice A n c, .agg #[.int .i64 x, .int .i64 y]] w' (RowPost w' (setO l (x, y)) (setE l (x, y))) := fun w' ht => rset_any A n c l x y (by omega) w' ht
    have hdP : ∀ Ao co w', Tms w' w'.heap.size Ao n l → Calls Try.prog 14 #[.slice Ao n co, .int .i64 now] w' (DuePost w' (dueA l now) (dueB l now) (dueE l now)) := fun Ao co w' ht => due_any Ao n co l now (by omega) w' ht
    have hdR : ∀ w', Tms w' w'.heap.size A n l → Calls Try.prog 22 #[.slice A n c, .int .i64 now] w' (DuePost w' (dueA l now) (dueB l now) (dueE l now)) := fun w' ht => rdue_any A n c l now (by omega) w' ht
    have hoP : ∀ Ao co w', Tms w' w'.heap.size Ao n l → Calls Try.prog 19 #[.slice Ao n co, .int .i64 N] w' (RowPost w' (offO l N) (offE l N)) := fun Ao co w' ht => off_any Ao n co l N (by omega) w' ht
    have hoR : ∀ w', Tms w' w'.heap.size A n l → Calls Try.prog 23 #[.slice A n c, .int .i64 N] w' (RowPost w' (offO l N) (offE l N)) := fun w' ht => roff_any A n c l N (by omega) w' ht
    unfold RowPost at hsP hsR hoP hoR
    unfold DuePost at hdP hdR
    generalize setO l (x, y) = oa at hsP hsR
    generalize setE l (x, y) = Ea at hsP hsR
    generalize dueA l now = od at hdP hdR
    generalize dueB l now = oq at hdP hdR
    generalize dueE l now = Ed at hdP hdR
    generalize offO l N = of at hoP hoR
    generalize offE l N = Eo at hoP hoR
    generalize hma : oa.length = ma at hsP hsR
    generalize hmd : od.length = md at hdP hdR
    generalize hmq : oq.length = mq at hdP hdR
    generalize hmf : of.length = mf at hoP hoR
    have gma := Lib.hid hma
    have gmd := Lib.hid hmd
    have gmq := Lib.hid hmq
    have gmf := Lib.hid hmf
    have gsP := Lib.hid hsP
    have gsR := Lib.hid hsR
    have gdP := Lib.hid hdP
    have gdR := Lib.hid hdR
    have goP := Lib.hid hoP
    have goR := Lib.hid hoR
    clear hma hmd hmq hmf hsP hsR hdP hdR hoP hoR
    have ea : (Ea == Ea) = true := by simp
    have ed : (Ed == Ed) = true := by simp
    have eo : (Eo == Eo) = true := by simp
    have ec : (chkE l == chkE l) = true := by simp
    have en : (nxE l == nxE l) = true := by simp
    have e0 : ((nxT l).1 == (nxT l).1) = true := by simp
    have e1 : ((nxT l).2 == (nxT l).2) = true := by simp
    go_enter Try.func7, Try.ntmps7
    go_wp2_with fail
    rw [← hV]
    clear hV
    refine hg.mono ?_
    rintro en w1 ⟨rfl, hw1⟩
    obtain rfl := hw1.symm
    clear hg hw1
    go_wp2_with (at_builtin; refine wpList_append_any _ rfl (.tmp 32) (.tmp 33) 22 rfl V.heap.size 35 i0 _ 2 16 Try.underlying22 hi0 hz0 hz1 hz2 rfl (by omega) (.slice (some ⟨V.heap.size, 0, none⟩) 0 0) 0 [] rfl (own_empty (size := 2) (Blk.new V 35 #[]) (Nat.le_refl _)) V.heap.size A n c (T2 l) rfl ((gL.out V (Below.refl _ _)).2.alloc (Nat.le_refl _) _) (T2_one l) (by unfold maxLen; omega) (by omega) (by simp) ?_; intro v4 w4 ho4 hg4 hor4; have hb := Below.grown ((Below.refl V.heap.size V).alloc (Nat.le_refl _) (.cells #[] 35)) hg4 (by simp) (fun q hq => by simp [Value.ownBlock] at hq; omega); obtain ⟨c0, c1⟩ := gbx.out w4 hb)
    rw [Nat.zero_add, List.nil_append] at ho4
    obtain ⟨Ao, co, rfl, hco, _⟩ := own_slice ho4
    have sw4 := hb.size
    have hW : Hid (w4.ownsRow V.heap.size 35 2 (.slice Ao n co) n (T2 l) ∧ l.length = n) := Lib.hid ⟨ho4, gl.out⟩
    have iW : Hid (∀ k, (Value.slice Ao n co).ownBlock = some k → V.heap.size ≤ k ∧ k < w4.heap.size) := Lib.hid (fun k hk => ⟨own_base ho4 hk, own_lt ho4 hk⟩)
    have gB : Hid (Below V.heap.size V w4) := Lib.hid hb
    clear hg4 hor4 ho4 hb
    go_wp2_with fail
    refine (gsP.out Ao co w4 (Tms.of_own hW.out.1 hW.out.2)).mono ?_
    rintro en x1 ⟨Ara, cra, rfl, hora, hb⟩
    have hra : Hid (x1.ownsRow w4.heap.size 35 2 (.slice Ara ma cra) ma (T2 oa) ∧ oa.length = ma) := Lib.hid ⟨hora, gma.out⟩
    have ira : Hid (∀ k, (Value.slice Ara ma cra).ownBlock = some k → w4.heap.size ≤ k ∧ k < x1.heap.size) := Lib.hid (fun k hk => ⟨own_base hora hk, own_lt hora hk⟩)
    clear hora
    have sx1 := hb.size
    replace hW := Lib.hid (And.intro (own_below hW.out.1 hb) hW.out.2)
    replace gB := Lib.hid (gB.out.trans (hb.mono gB.out.size))
    clear hb
    clear c0 c1
    obtain ⟨c0, c1⟩ := gbx.out _ gB.out
    go_wp2_with fail
    refine (gsR.out x1 (gL.out x1 gB.out)).mono ?_
    rintro en x2 ⟨Arb, crb, rfl, horb, hb⟩
    have hrb : Hid (x2.ownsRow x1.heap.size 35 2 (.slice Arb ma crb) ma (T2 oa) ∧ oa.length = ma) := Lib.hid ⟨horb, gma.out⟩
    have irb : Hid (∀ k, (Value.slice Arb ma crb).ownBlock = some k → x1.heap.size ≤ k ∧ k < x2.heap.size) := Lib.hid (fun k hk => ⟨own_base horb hk, own_lt horb hk⟩)
    clear horb
    have sx2 := hb.size
    replace hW := Lib.hid (And.intro (own_below hW.out.1 hb) hW.out.2)
    replace hra := Lib.hid (And.intro (own_below hra.out.1 hb) hra.out.2)
    replace gB := Lib.hid (gB.out.trans (hb.mono gB.out.size))
    clear hb
    clear c0 c1
    go_wp2_with fail
    refine (next_of Ao n co l (by omega) x2 (Tms.of_own hW.out.1 hW.out.2)).mono ?_
    rintro en x3 ⟨rfl, hb⟩
    have sx3 := hb.size
    replace hW := Lib.hid (And.intro (own_below hW.out.1 hb) hW.out.2)
    replace hra := Lib.hid (And.intro (own_below hra.out.1 hb) hra.out.2)
    replace hrb := Lib.hid (And.intro (own_below hrb.out.1 hb) hrb.out.2)
    replace gB := Lib.hid (gB.out.trans (hb.mono gB.out.size))
    clear hb
    obtain ⟨y3, hy3⟩ : ∃ W, W = x3.alloc (.cells #[.int .i64 (nxT l).1, .int .i64 (nxT l).2] 35) := ⟨_, rfl⟩
    have hb : Below x3.heap.size x3 y3 := by rw [hy3]; exact (Below.refl _ _).alloc (Nat.le_refl _) _
    have kx : Hid (Blk y3 x3.heap.size 35 #[.int .i64 (nxT l).1, .int .i64 (nxT l).2]) := Lib.hid (by rw [hy3]; exact Blk.new _ _ _)
    have sy3 := hb.size
    replace hW := Lib.hid (And.intro (own_below hW.out.1 hb) hW.out.2)
    replace hra := Lib.hid (And.intro (own_below hra.out.1 hb) hra.out.2)
    replace hrb := Lib.hid (And.intro (own_below hrb.out.1 hb) hrb.out.2)
    replace gB := Lib.hid (gB.out.trans (hb.mono gB.out.size))
    clear hb
    go_wp2_with fail
    rw [← hy3]
    clear hy3
    refine (rnext_of A n c l (by omega) y3 (gL.out y3 gB.out)).mono ?_
    rintro en x4 ⟨rfl, hb⟩
    have sx4 := hb.size
    replace hW := Lib.hid (And.intro (own_below hW.out.1 hb) hW.out.2)
    replace hra := Lib.hid (And.intro (own_below hra.out.1 hb) hra.out.2)
    replace hrb := Lib.hid (And.intro (own_below hrb.out.1 hb) hrb.out.2)
    replace kx := Lib.hid (kx.out.below hb kx.out.lt)
    replace gB := Lib.hid (gB.out.trans (hb.mono gB.out.size))
    clear hb
    obtain ⟨y4, hy4⟩ : ∃ W, W = x4.alloc (.cells #[.int .i64 (nxT l).1, .int .i64 (nxT l).2] 35) := ⟨_, rfl⟩
    have hb : Below x4.heap.size x4 y4 := by rw [hy4]; exact (Below.refl _ _).alloc (Nat.le_refl _) _
    have ky : Hid (Blk y4 x4.heap.size 35 #[.int .i64 (nxT l).1, .int .i64 (nxT l).2]) := Lib.hid (by rw [hy4]; exact Blk.new _ _ _)
    have sy4 := hb.size
    replace hW := Lib.hid (And.intro (own_below hW.out.1 hb) hW.out.2)
    replace hra := Lib.hid (And.intro (own_below hra.out.1 hb) hra.out.2)
    replace hrb := Lib.hid (And.intro (own_below hrb.out.1 hb) hrb.out.2)
    replace kx := Lib.hid (kx.out.below hb kx.out.lt)
    replace gB := Lib.hid (gB.out.trans (hb.mono gB.out.size))
    clear hb
    go_wp2_with fail
    rw [← hy4]
    clear hy4
    refine (gdP.out Ao co y4 (Tms.of_own hW.out.1 hW.out.2)).mono ?_
    rintro en x5 ⟨Adu, cdu, Ale, cle, rfl, hodu, hole, hap, hb⟩
    have gAp1 := Lib.hid hap
    clear hap
    have hdu : Hid (x5.ownsRow y4.heap.size 35 2 (.slice Adu md cdu) md (T2 od) ∧ od.length = md) := Lib.hid ⟨hodu, gmd.out⟩
    have idu : Hid (∀ k, (Value.slice Adu md cdu).ownBlock = some k → y4.heap.size ≤ k ∧ k < x5.heap.size) := Lib.hid (fun k hk => ⟨own_base hodu hk, own_lt hodu hk⟩)
    clear hodu
    have hle : Hid (x5.ownsRow y4.heap.size 35 2 (.slice Ale mq cle) mq (T2 oq) ∧ oq.length = mq) := Lib.hid ⟨hole, gmq.out⟩
    have ile : Hid (∀ k, (Value.slice Ale mq cle).ownBlock = some k → y4.heap.size ≤ k ∧ k < x5.heap.size) := Lib.hid (fun k hk => ⟨own_base hole hk, own_lt hole hk⟩)
    clear hole
    have sx5 := hb.size
    replace hW := Lib.hid (And.intro (own_below hW.out.1 hb) hW.out.2)
    replace hra := Lib.hid (And.intro (own_below hra.out.1 hb) hra.out.2)
    replace hrb := Lib.hid (And.intro (own_below hrb.out.1 hb) hrb.out.2)
    replace kx := Lib.hid (kx.out.below hb kx.out.lt)
    replace ky := Lib.hid (ky.out.below hb ky.out.lt)
    replace gB := Lib.hid (gB.out.trans (hb.mono gB.out.size))
    clear hb
    go_wp2_with fail
    refine (gdR.out x5 (gL.out x5 gB.out)).mono ?_
    rintro en x6 ⟨Ape, cpe, Aqe, cqe, rfl, hope, hoqe, hap, hb⟩
    have gAp2 := Lib.hid hap
    clear hap
    have hpe : Hid (x6.ownsRow x5.heap.size 35 2 (.slice Ape md cpe) md (T2 od) ∧ od.length = md) := Lib.hid ⟨hope, gmd.out⟩
    have ipe : Hid (∀ k, (Value.slice Ape md cpe).ownBlock = some k → x5.heap.size ≤ k ∧ k < x6.heap.size) := Lib.hid (fun k hk => ⟨own_base hope hk, own_lt hope hk⟩)
    clear hope
    have hqe : Hid (x6.ownsRow x5.heap.size 35 2 (.slice Aqe mq cqe) mq (T2 oq) ∧ oq.length = mq) := Lib.hid ⟨hoqe, gmq.out⟩
    have iqe : Hid (∀ k, (Value.slice Aqe mq cqe).ownBlock = some k → x5.heap.size ≤ k ∧ k < x6.heap.size) := Lib.hid (fun k hk => ⟨own_base hoqe hk, own_lt hoqe hk⟩)
    clear hoqe
    have sx6 := hb.size
    replace hW := Lib.hid (And.intro (own_below hW.out.1 hb) hW.out.2)
    replace hra := Lib.hid (And.intro (own_below hra.out.1 hb) hra.out.2)
    replace hrb := Lib.hid (And.intro (own_below hrb.out.1 hb) hrb.out.2)
    replace hdu := Lib.hid (And.intro (own_below hdu.out.1 hb) hdu.out.2)
    replace hle := Lib.hid (And.intro (own_below hle.out.1 hb) hle.out.2)
    replace kx := Lib.hid (kx.out.below hb kx.out.lt)
    replace ky := Lib.hid (ky.out.below hb ky.out.lt)
    replace gB := Lib.hid (gB.out.trans (hb.mono gB.out.size))
    clear hb
    go_wp2_with fail
    refine (goP.out Ao co x6 (Tms.of_own hW.out.1 hW.out.2)).mono ?_
    rintro en x7 ⟨Arg, crg, rfl, horg, hb⟩
    have hrg : Hid (x7.ownsRow x6.heap.size 35 2 (.slice Arg mf crg) mf (T2 of) ∧ of.length = mf) := Lib.hid ⟨horg, gmf.out⟩
    have irg : Hid (∀ k, (Value.slice Arg mf crg).ownBlock = some k → x6.heap.size ≤ k ∧ k < x7.heap.size) := Lib.hid (fun k hk => ⟨own_base horg hk, own_lt horg hk⟩)
    clear horg
    have sx7 := hb.size
    replace hW := Lib.hid (And.intro (own_below hW.out.1 hb) hW.out.2)
    replace hra := Lib.hid (And.intro (own_below hra.out.1 hb) hra.out.2)
    replace hrb := Lib.hid (And.intro (own_below hrb.out.1 hb) hrb.out.2)
    replace hdu := Lib.hid (And.intro (own_below hdu.out.1 hb) hdu.out.2)
    replace hle := Lib.hid (And.intro (own_below hle.out.1 hb) hle.out.2)
    replace hpe := Lib.hid (And.intro (own_below hpe.out.1 hb) hpe.out.2)
    replace hqe := Lib.hid (And.intro (own_below hqe.out.1 hb) hqe.out.2)
    replace kx := Lib.hid (kx.out.below hb kx.out.lt)
    replace ky := Lib.hid (ky.out.below hb ky.out.lt)
    replace gB := Lib.hid (gB.out.trans (hb.mono gB.out.size))
    clear hb
    go_wp2_with fail
    refine (goR.out x7 (gL.out x7 gB.out)).mono ?_
    rintro en x8 ⟨Arh, crh, rfl, horh, hb⟩
    have hrh : Hid (x8.ownsRow x7.heap.size 35 2 (.slice Arh mf crh) mf (T2 of) ∧ of.length = mf) := Lib.hid ⟨horh, gmf.out⟩
    have irh : Hid (∀ k, (Value.slice Arh mf crh).ownBlock = some k → x7.heap.size ≤ k ∧ k < x8.heap.size) := Lib.hid (fun k hk => ⟨own_base horh hk, own_lt horh hk⟩)
    clear horh
    have sx8 := hb.size
    replace hW := Lib.hid (And.intro (own_below hW.out.1 hb) hW.out.2)
    replace hra := Lib.hid (And.intro (own_below hra.out.1 hb) hra.out.2)
    replace hrb := Lib.hid (And.intro (own_below hrb.out.1 hb) hrb.out.2)
    replace hdu := Lib.hid (And.intro (own_below hdu.out.1 hb) hdu.out.2)
    replace hle := Lib.hid (And.intro (own_below hle.out.1 hb) hle.out.2)
    replace hpe := Lib.hid (And.intro (own_below hpe.out.1 hb) hpe.out.2)
    replace hqe := Lib.hid (And.intro (own_below hqe.out.1 hb) hqe.out.2)
    replace hrg := Lib.hid (And.intro (own_below hrg.out.1 hb) hrg.out.2)
    replace kx := Lib.hid (kx.out.below hb kx.out.lt)
    replace ky := Lib.hid (ky.out.below hb ky.out.lt)
    replace gB := Lib.hid (gB.out.trans (hb.mono gB.out.size))
    clear hb
    go_wp2_with fail
    refine (rsame_any Ara Arb ma ma cra crb oa oa (own_max hra.out.1) x8 (Tms.of_own hra.out.1 hra.out.2) (Tms.of_own hrb.out.1 hrb.out.2) true (decide_eq_true rfl)).mono ?_
    rintro en x9 ⟨rfl, hb⟩
    have sx9 := hb.size
    replace hW := Lib.hid (And.intro (own_below hW.out.1 hb) hW.out.2)
    replace hra := Lib.hid (And.intro (own_below hra.out.1 hb) hra.out.2)
    replace hrb := Lib.hid (And.intro (own_below hrb.out.1 hb) hrb.out.2)
    replace hdu := Lib.hid (And.intro (own_below hdu.out.1 hb) hdu.out.2)
    replace hle := Lib.hid (And.intro (own_below hle.out.1 hb) hle.out.2)
    replace hpe := Lib.hid (And.intro (own_below hpe.out.1 hb) hpe.out.2)
    replace hqe := Lib.hid (And.intro (own_below hqe.out.1 hb) hqe.out.2)
    replace hrg := Lib.hid (And.intro (own_below hrg.out.1 hb) hrg.out.2)
    replace hrh := Lib.hid (And.intro (own_below hrh.out.1 hb) hrh.out.2)
    replace kx := Lib.hid (kx.out.below hb kx.out.lt)
    replace ky := Lib.hid (ky.out.below hb ky.out.lt)
    replace gB := Lib.hid (gB.out.trans (hb.mono gB.out.size))
    clear hb
    have bx0 : x9.cell? ⟨x3.heap.size, 0, none⟩ = some (.int .i64 (nxT l).1) := by rw [kx.out.cell]; rfl
    have bx1 : x9.cell? ⟨x3.heap.size, 1, none⟩ = some (.int .i64 (nxT l).2) := by rw [kx.out.cell]; rfl
    have by0 : x9.cell? ⟨x4.heap.size, 0, none⟩ = some (.int .i64 (nxT l).1) := by rw [ky.out.cell]; rfl
    have by1 : x9.cell? ⟨x4.heap.size, 1, none⟩ = some (.int .i64 (nxT l).2) := by rw [ky.out.cell]; rfl
    go_wp2_with fail
    clear bx0 bx1 by0 by1
    refine (check_any Ao n co l x9 (Tms.of_own hW.out.1 hW.out.2) (by unfold maxLen; omega) (chkE l) rfl).mono ?_
    rintro en x10 ⟨rfl, hb⟩
    have sx10 := hb.size
    replace hW := Lib.hid (And.intro (own_below hW.out.1 hb) hW.out.2)
    replace hra := Lib.hid (And.intro (own_below hra.out.1 hb) hra.out.2)
    replace hrb := Lib.hid (And.intro (own_below hrb.out.1 hb) hrb.out.2)
    replace hdu := Lib.hid (And.intro (own_below hdu.out.1 hb) hdu.out.2)
    replace hle := Lib.hid (And.intro (own_below hle.out.1 hb) hle.out.2)
    replace hpe := Lib.hid (And.intro (own_below hpe.out.1 hb) hpe.out.2)
    replace hqe := Lib.hid (And.intro (own_below hqe.out.1 hb) hqe.out.2)
    replace hrg := Lib.hid (And.intro (own_below hrg.out.1 hb) hrg.out.2)
    replace hrh := Lib.hid (And.intro (own_below hrh.out.1 hb) hrh.out.2)
    replace kx := Lib.hid (kx.out.below hb kx.out.lt)
    replace ky := Lib.hid (ky.out.below hb ky.out.lt)
    replace gB := Lib.hid (gB.out.trans (hb.mono gB.out.size))
    clear hb
    go_wp2_with fail
    refine (rcheck_any A n c l x10 (gL.out x10 gB.out) (by unfold maxLen; omega) (chkE l) rfl).mono ?_
    rintro en x11 ⟨rfl, hb⟩
    have sx11 := hb.size
    replace hW := Lib.hid (And.intro (own_below hW.out.1 hb) hW.out.2)
    replace hra := Lib.hid (And.intro (own_below hra.out.1 hb) hra.out.2)
    replace hrb := Lib.hid (And.intro (own_below hrb.out.1 hb) hrb.out.2)
    replace hdu := Lib.hid (And.intro (own_below hdu.out.1 hb) hdu.out.2)
    replace hle := Lib.hid (And.intro (own_below hle.out.1 hb) hle.out.2)
    replace hpe := Lib.hid (And.intro (own_below hpe.out.1 hb) hpe.out.2)
    replace hqe := Lib.hid (And.intro (own_below hqe.out.1 hb) hqe.out.2)
    replace hrg := Lib.hid (And.intro (own_below hrg.out.1 hb) hrg.out.2)
    replace hrh := Lib.hid (And.intro (own_below hrh.out.1 hb) hrh.out.2)
    replace kx := Lib.hid (kx.out.below hb kx.out.lt)
    replace ky := Lib.hid (ky.out.below hb ky.out.lt)
    replace gB := Lib.hid (gB.out.trans (hb.mono gB.out.size))
    clear hb
    go_wp2_with fail
    refine (spoil_big y4.heap.size md cdu Adu od (own_max hdu.out.1) x11 ⟨hdu.out.2, hdu.out.1⟩).mono ?_
    rintro en x12 ⟨rfl, _, hb, hsz, hfr⟩
    have sx12 : x11.heap.size ≤ x12.heap.size := Nat.le_of_eq hsz.symm
    replace hW := Lib.hid (And.intro (own_keep hW.out.1 hfr (fun k hk e => by have h1 := iW.out k hk; have h2 := idu.out k e; omega)) hW.out.2)
    replace hra := Lib.hid (And.intro (own_keep hra.out.1 hfr (fun k hk e => by have h1 := ira.out k hk; have h2 := idu.out k e; omega)) hra.out.2)
    replace hrb := Lib.hid (And.intro (own_keep hrb.out.1 hfr (fun k hk e => by have h1 := irb.out k hk; have h2 := idu.out k e; omega)) hrb.out.2)
    replace hle := Lib.hid (And.intro (own_keep hle.out.1 hfr (fun k hk e => gAp1.out k e hk)) hle.out.2)
    replace hpe := Lib.hid (And.intro (own_keep hpe.out.1 hfr (fun k hk e => by have h1 := ipe.out k hk; have h2 := idu.out k e; omega)) hpe.out.2)
    replace hqe := Lib.hid (And.intro (own_keep hqe.out.1 hfr (fun k hk e => by have h1 := iqe.out k hk; have h2 := idu.out k e; omega)) hqe.out.2)
    replace hrg := Lib.hid (And.intro (own_keep hrg.out.1 hfr (fun k hk e => by have h1 := irg.out k hk; have h2 := idu.out k e; omega)) hrg.out.2)
    replace hrh := Lib.hid (And.intro (own_keep hrh.out.1 hfr (fun k hk e => by have h1 := irh.out k hk; have h2 := idu.out k e; omega)) hrh.out.2)
    clear kx
    clear ky
    replace gB := Lib.hid (gB.out.trans (hb.mono (by omega)))
    clear hb hsz hfr
    clear hdu idu
    go_wp2_with fail
    refine (rsame_any Ale Aqe mq mq cle cqe oq oq (own_max hle.out.1) x12 (Tms.of_own hle.out.1 hle.out.2) (Tms.of_own hqe.out.1 hqe.out.2) true (decide_eq_true rfl)).mono ?_
    rintro en x13 ⟨rfl, hb⟩
    have sx13 := hb.size
    replace hW := Lib.hid (And.intro (own_below hW.out.1 hb) hW.out.2)
    replace hra := Lib.hid (And.intro (own_below hra.out.1 hb) hra.out.2)
    replace hrb := Lib.hid (And.intro (own_below hrb.out.1 hb) hrb.out.2)
    replace hle := Lib.hid (And.intro (own_below hle.out.1 hb) hle.out.2)
    replace hpe := Lib.hid (And.intro (own_below hpe.out.1 hb) hpe.out.2)
    replace hqe := Lib.hid (And.intro (own_below hqe.out.1 hb) hqe.out.2)
    replace hrg := Lib.hid (And.intro (own_below hrg.out.1 hb) hrg.out.2)
    replace hrh := Lib.hid (And.intro (own_below hrh.out.1 hb) hrh.out.2)
    replace gB := Lib.hid (gB.out.trans (hb.mono gB.out.size))
    clear hb
    go_wp2_with fail
    refine (gdP.out Ao co x13 (Tms.of_own hW.out.1 hW.out.2)).mono ?_
    rintro en x14 ⟨Adv, cdv, Alv, clv, rfl, hodv, holv, hap, hb⟩
    have gAp3 := Lib.hid hap
    clear hap
    have hdv : Hid (x14.ownsRow x13.heap.size 35 2 (.slice Adv md cdv) md (T2 od) ∧ od.length = md) := Lib.hid ⟨hodv, gmd.out⟩
    have idv : Hid (∀ k, (Value.slice Adv md cdv).ownBlock = some k → x13.heap.size ≤ k ∧ k < x14.heap.size) := Lib.hid (fun k hk => ⟨own_base hodv hk, own_lt hodv hk⟩)
    clear hodv
    have hlv : Hid (x14.ownsRow x13.heap.size 35 2 (.slice Alv mq clv) mq (T2 oq) ∧ oq.length = mq) := Lib.hid ⟨holv, gmq.out⟩
    have ilv : Hid (∀ k, (Value.slice Alv mq clv).ownBlock = some k → x13.heap.size ≤ k ∧ k < x14.heap.size) := Lib.hid (fun k hk => ⟨own_base holv hk, own_lt holv hk⟩)
    clear holv
    have sx14 := hb.size
    replace hW := Lib.hid (And.intro (own_below hW.out.1 hb) hW.out.2)
    replace hra := Lib.hid (And.intro (own_below hra.out.1 hb) hra.out.2)
    replace hrb := Lib.hid (And.intro (own_below hrb.out.1 hb) hrb.out.2)
    replace hle := Lib.hid (And.intro (own_below hle.out.1 hb) hle.out.2)
    replace hpe := Lib.hid (And.intro (own_below hpe.out.1 hb) hpe.out.2)
    replace hqe := Lib.hid (And.intro (own_below hqe.out.1 hb) hqe.out.2)
    replace hrg := Lib.hid (And.intro (own_below hrg.out.1 hb) hrg.out.2)
    replace hrh := Lib.hid (And.intro (own_below hrh.out.1 hb) hrh.out.2)
    replace gB := Lib.hid (gB.out.trans (hb.mono gB.out.size))
    clear hb
    go_wp2_with fail
    refine (rsame_any Adv Ape md md cdv cpe od od (own_max hdv.out.1) x14 (Tms.of_own hdv.out.1 hdv.out.2) (Tms.of_own hpe.out.1 hpe.out.2) true (decide_eq_true rfl)).mono ?_
    rintro en x15 ⟨rfl, hb⟩
    have sx15 := hb.size
    replace hW := Lib.hid (And.intro (own_below hW.out.1 hb) hW.out.2)
    replace hra := Lib.hid (And.intro (own_below hra.out.1 hb) hra.out.2)
    replace hrb := Lib.hid (And.intro (own_below hrb.out.1 hb) hrb.out.2)
    replace hle := Lib.hid (And.intro (own_below hle.out.1 hb) hle.out.2)
    replace hpe := Lib.hid (And.intro (own_below hpe.out.1 hb) hpe.out.2)
    replace hqe := Lib.hid (And.intro (own_below hqe.out.1 hb) hqe.out.2)
    replace hrg := Lib.hid (And.intro (own_below hrg.out.1 hb) hrg.out.2)
    replace hrh := Lib.hid (And.intro (own_below hrh.out.1 hb) hrh.out.2)
    replace hdv := Lib.hid (And.intro (own_below hdv.out.1 hb) hdv.out.2)
    replace hlv := Lib.hid (And.intro (own_below hlv.out.1 hb) hlv.out.2)
    replace gB := Lib.hid (gB.out.trans (hb.mono gB.out.size))
    clear hb
    go_wp2_with fail
    refine (rsame_any Alv Aqe mq mq clv cqe oq oq (own_max hlv.out.1) x15 (Tms.of_own hlv.out.1 hlv.out.2) (Tms.of_own hqe.out.1 hqe.out.2) true (decide_eq_true rfl)).mono ?_
    rintro en x16 ⟨rfl, hb⟩
    have sx16 := hb.size
    replace hW := Lib.hid (And.intro (own_below hW.out.1 hb) hW.out.2)
    replace hra := Lib.hid (And.intro (own_below hra.out.1 hb) hra.out.2)
    replace hrb := Lib.hid (And.intro (own_below hrb.out.1 hb) hrb.out.2)
    replace hle := Lib.hid (And.intro (own_below hle.out.1 hb) hle.out.2)
    replace hpe := Lib.hid (And.intro (own_below hpe.out.1 hb) hpe.out.2)
    replace hqe := Lib.hid (And.intro (own_below hqe.out.1 hb) hqe.out.2)
    replace hrg := Lib.hid (And.intro (own_below hrg.out.1 hb) hrg.out.2)
    replace hrh := Lib.hid (And.intro (own_below hrh.out.1 hb) hrh.out.2)
    replace hdv := Lib.hid (And.intro (own_below hdv.out.1 hb) hdv.out.2)
    replace hlv := Lib.hid (And.intro (own_below hlv.out.1 hb) hlv.out.2)
    replace gB := Lib.hid (gB.out.trans (hb.mono gB.out.size))
    clear hb
    go_wp2_with fail
    refine (rsame_any Arg Arh mf mf crg crh of of (own_max hrg.out.1) x16 (Tms.of_own hrg.out.1 hrg.out.2) (Tms.of_own hrh.out.1 hrh.out.2) true (decide_eq_true rfl)).mono ?_
    rintro en x17 ⟨rfl, hb⟩
    have sx17 := hb.size
    replace hW := Lib.hid (And.intro (own_below hW.out.1 hb) hW.out.2)
    replace hra := Lib.hid (And.intro (own_below hra.out.1 hb) hra.out.2)
    replace hrb := Lib.hid (And.intro (own_below hrb.out.1 hb) hrb.out.2)
    replace hle := Lib.hid (And.intro (own_below hle.out.1 hb) hle.out.2)
    replace hpe := Lib.hid (And.intro (own_below hpe.out.1 hb) hpe.out.2)
    replace hqe := Lib.hid (And.intro (own_below hqe.out.1 hb) hqe.out.2)
    replace hrg := Lib.hid (And.intro (own_below hrg.out.1 hb) hrg.out.2)
    replace hrh := Lib.hid (And.intro (own_below hrh.out.1 hb) hrh.out.2)
    replace hdv := Lib.hid (And.intro (own_below hdv.out.1 hb) hdv.out.2)
    replace hlv := Lib.hid (And.intro (own_below hlv.out.1 hb) hlv.out.2)
    replace gB := Lib.hid (gB.out.trans (hb.mono gB.out.size))
    clear hb
    go_wp2_with fail
    refine (spoil_big w4.heap.size ma cra Ara oa (own_max hra.out.1) x17 ⟨hra.out.2, hra.out.1⟩).mono ?_
    rintro en x18 ⟨rfl, _, hb, hsz, hfr⟩
    have sx18 : x17.heap.size ≤ x18.heap.size := Nat.le_of_eq hsz.symm
    replace hW := Lib.hid (And.intro (own_keep hW.out.1 hfr (fun k hk e => by have h1 := iW.out k hk; have h2 := ira.out k e; omega)) hW.out.2)
    replace hrb := Lib.hid (And.intro (own_keep hrb.out.1 hfr (fun k hk e => by have h1 := irb.out k hk; have h2 := ira.out k e; omega)) hrb.out.2)
    replace hle := Lib.hid (And.intro (own_keep hle.out.1 hfr (fun k hk e => by have h1 := ile.out k hk; have h2 := ira.out k e; omega)) hle.out.2)
    replace hpe := Lib.hid (And.intro (own_keep hpe.out.1 hfr (fun k hk e => by have h1 := ipe.out k hk; have h2 := ira.out k e; omega)) hpe.out.2)
    replace hqe := Lib.hid (And.intro (own_keep hqe.out.1 hfr (fun k hk e => by have h1 := iqe.out k hk; have h2 := ira.out k e; omega)) hqe.out.2)
    replace hrg := Lib.hid (And.intro (own_keep hrg.out.1 hfr (fun k hk e => by have h1 := irg.out k hk; have h2 := ira.out k e; omega)) hrg.out.2)
    replace hrh := Lib.hid (And.intro (own_keep hrh.out.1 hfr (fun k hk e => by have h1 := irh.out k hk; have h2 := ira.out k e; omega)) hrh.out.2)
    replace hdv := Lib.hid (And.intro (own_keep hdv.out.1 hfr (fun k hk e => by have h1 := idv.out k hk; have h2 := ira.out k e; omega)) hdv.out.2)
    replace hlv := Lib.hid (And.intro (own_keep hlv.out.1 hfr (fun k hk e => by have h1 := ilv.out k hk; have h2 := ira.out k e; omega)) hlv.out.2)
    replace gB := Lib.hid (gB.out.trans (hb.mono (by omega)))
    clear hb hsz hfr
    clear hra ira
    go_wp2_with fail
    refine (spoil_big x13.heap.size md cdv Adv od (own_max hdv.out.1) x18 ⟨hdv.out.2, hdv.out.1⟩).mono ?_
    rintro en x19 ⟨rfl, _, hb, hsz, hfr⟩
    have sx19 : x18.heap.size ≤ x19.heap.size := Nat.le_of_eq hsz.symm
    replace hW := Lib.hid (And.intro (own_keep hW.out.1 hfr (fun k hk e => by have h1 := iW.out k hk; have h2 := idv.out k e; omega)) hW.out.2)
    replace hrb := Lib.hid (And.intro (own_keep hrb.out.1 hfr (fun k hk e => by have h1 := irb.out k hk; have h2 := idv.out k e; omega)) hrb.out.2)
    replace hle := Lib.hid (And.intro (own_keep hle.out.1 hfr (fun k hk e => by have h1 := ile.out k hk; have h2 := idv.out k e; omega)) hle.out.2)
    replace hpe := Lib.hid (And.intro (own_keep hpe.out.1 hfr (fun k hk e => by have h1 := ipe.out k hk; have h2 := idv.out k e; omega)) hpe.out.2)
    replace hqe := Lib.hid (And.intro (own_keep hqe.out.1 hfr (fun k hk e => by have h1 := iqe.out k hk; have h2 := idv.out k e; omega)) hqe.out.2)
    replace hrg := Lib.hid (And.intro (own_keep hrg.out.1 hfr (fun k hk e => by have h1 := irg.out k hk; have h2 := idv.out k e; omega)) hrg.out.2)
    replace hrh := Lib.hid (And.intro (own_keep hrh.out.1 hfr (fun k hk e => by have h1 := irh.out k hk; have h2 := idv.out k e; omega)) hrh.out.2)
    replace hlv := Lib.hid (And.intro (own_keep hlv.out.1 hfr (fun k hk e => gAp3.out k e hk)) hlv.out.2)
    replace gB := Lib.hid (gB.out.trans (hb.mono (by omega)))
    clear hb hsz hfr
    clear hdv idv
    go_wp2_with fail
    refine (spoil_big x13.heap.size mq clv Alv oq (own_max hlv.out.1) x19 ⟨hlv.out.2, hlv.out.1⟩).mono ?_
    rintro en x20 ⟨rfl, _, hb, hsz, hfr⟩
    have sx20 : x19.heap.size ≤ x20.heap.size := Nat.le_of_eq hsz.symm
    replace hW := Lib.hid (And.intro (own_keep hW.out.1 hfr (fun k hk e => by have h1 := iW.out k hk; have h2 := ilv.out k e; omega)) hW.out.2)
    replace hrb := Lib.hid (And.intro (own_keep hrb.out.1 hfr (fun k hk e => by have h1 := irb.out k hk; have h2 := ilv.out k e; omega)) hrb.out.2)
    replace hle := Lib.hid (And.intro (own_keep hle.out.1 hfr (fun k hk e => by have h1 := ile.out k hk; have h2 := ilv.out k e; omega)) hle.out.2)
    replace hpe := Lib.hid (And.intro (own_keep hpe.out.1 hfr (fun k hk e => by have h1 := ipe.out k hk; have h2 := ilv.out k e; omega)) hpe.out.2)
    replace hqe := Lib.hid (And.intro (own_keep hqe.out.1 hfr (fun k hk e => by have h1 := iqe.out k hk; have h2 := ilv.out k e; omega)) hqe.out.2)
    replace hrg := Lib.hid (And.intro (own_keep hrg.out.1 hfr (fun k hk e => by have h1 := irg.out k hk; have h2 := ilv.out k e; omega)) hrg.out.2)
    replace hrh := Lib.hid (And.intro (own_keep hrh.out.1 hfr (fun k hk e => by have h1 := irh.out k hk; have h2 := ilv.out k e; omega)) hrh.out.2)
    replace gB := Lib.hid (gB.out.trans (hb.mono (by omega)))
    clear hb hsz hfr
    clear hlv ilv
    go_wp2_with fail
    refine (spoil_big x6.heap.size mf crg Arg of (own_max hrg.out.1) x20 ⟨hrg.out.2, hrg.out.1⟩).mono ?_
    rintro en x21 ⟨rfl, _, hb, hsz, hfr⟩
    have sx21 : x20.heap.size ≤ x21.heap.size := Nat.le_of_eq hsz.symm
    replace hW := Lib.hid (And.intro (own_keep hW.out.1 hfr (fun k hk e => by have h1 := iW.out k hk; have h2 := irg.out k e; omega)) hW.out.2)
    replace hrb := Lib.hid (And.intro (own_keep hrb.out.1 hfr (fun k hk e => by have h1 := irb.out k hk; have h2 := irg.out k e; omega)) hrb.out.2)
    replace hle := Lib.hid (And.intro (own_keep hle.out.1 hfr (fun k hk e => by have h1 := ile.out k hk; have h2 := irg.out k e; omega)) hle.out.2)
    replace hpe := Lib.hid (And.intro (own_keep hpe.out.1 hfr (fun k hk e => by have h1 := ipe.out k hk; have h2 := irg.out k e; omega)) hpe.out.2)
    replace hqe := Lib.hid (And.intro (own_keep hqe.out.1 hfr (fun k hk e => by have h1 := iqe.out k hk; have h2 := irg.out k e; omega)) hqe.out.2)
    replace hrh := Lib.hid (And.intro (own_keep hrh.out.1 hfr (fun k hk e => by have h1 := irh.out k hk; have h2 := irg.out k e; omega)) hrh.out.2)
    replace gB := Lib.hid (gB.out.trans (hb.mono (by omega)))
    clear hb hsz hfr
    clear hrg irg
    go_wp2_with fail
    refine (rsame_any Ao A n n co c l l (by unfold maxLen; omega) x21 (Tms.of_own hW.out.1 hW.out.2) (gL.out x21 gB.out) true (decide_eq_true rfl)).mono ?_
    rintro en x22 ⟨rfl, hb⟩
    have sx22 := hb.size
    replace hW := Lib.hid (And.intro (own_below hW.out.1 hb) hW.out.2)
    replace hrb := Lib.hid (And.intro (own_below hrb.out.1 hb) hrb.out.2)
    replace hle := Lib.hid (And.intro (own_below hle.out.1 hb) hle.out.2)
    replace hpe := Lib.hid (And.intro (own_below hpe.out.1 hb) hpe.out.2)
    replace hqe := Lib.hid (And.intro (own_below hqe.out.1 hb) hqe.out.2)
    replace hrh := Lib.hid (And.intro (own_below hrh.out.1 hb) hrh.out.2)
    replace gB := Lib.hid (gB.out.trans (hb.mono gB.out.size))
    clear hb
    go_wp2
    go_ret
    exact ⟨rfl, hB0.trans (gB.out.mono hB0.size)⟩
end Go.Proofs.Ythageikchniahaa
