/- Timer: the chapter's examples -/
import Derived.Test.YthageikchniahaaLK
namespace Go.Proofs.Ythageikchniahaa
open Go.ChangeShapes Go.WideShapes Go.ChangeAt Go.RowKit
set_option linter.unusedSimpArgs false
set_option linter.unusedVariables false

theorem t_any (a b : Int) (w : World) : Calls Try.prog 18 #[.int .i64 a, .int .i64 b] w fun en w' => en = .returned (.agg #[.int .i64 a, .int .i64 b]) ∧ Below w.heap.size w w' := by
  obtain ⟨V, hV⟩ : ∃ V, V = w.alloc (.cells #[.int .i64 0, .int .i64 0] 35) := ⟨_, rfl⟩
  have hB0 : Below w.heap.size w V := by rw [hV]; exact (Below.refl _ _).alloc (Nat.le_refl _) _
  have kb : Blk V w.heap.size 35 #[.int .i64 0, .int .i64 0] := by rw [hV]; exact Blk.new w _ _
  have kW := (kb.set_ 0 (.int .i64 a)).set_ 1 (.int .i64 b)
  have d0 : ((V.setCell ⟨w.heap.size, 0, none⟩ (.int .i64 a)).setCell ⟨w.heap.size, 1, none⟩ (.int .i64 b)).cell? ⟨w.heap.size, 0, none⟩ = some (.int .i64 a) := by rw [kW.cell]; rfl
  have d1 : ((V.setCell ⟨w.heap.size, 0, none⟩ (.int .i64 a)).setCell ⟨w.heap.size, 1, none⟩ (.int .i64 b)).cell? ⟨w.heap.size, 1, none⟩ = some (.int .i64 b) := by rw [kW.cell]; rfl
  have hB : Below w.heap.size w ((V.setCell ⟨w.heap.size, 0, none⟩ (.int .i64 a)).setCell ⟨w.heap.size, 1, none⟩ (.int .i64 b)) := (hB0.setCell (p := ⟨w.heap.size, 0, none⟩) (Nat.le_refl _) _).setCell (p := ⟨w.heap.size, 1, none⟩) (Nat.le_refl _) _
  go_enter Try.func18, Try.ntmps18
  go_wp2
  first
  | (rw [← hV]; exact bodyPost_ret (v := .agg #[.int .i64 a, .int .i64 b]) (by simp [results, Try.results18, go_sem, d0, d1]) rfl ⟨rfl, hB⟩)
  | (refine bodyPost_ret (v := .agg #[.int .i64 a, .int .i64 b]) (by simp [results, Try.results18, go_sem]) rfl ⟨rfl, (Below.refl _ _).alloc (Nat.le_refl _) _⟩)
theorem tms_blk {w : World} {g n : Nat} {cs : Array Value} {l : List Tm} (h : Blk w g 35 cs) (hl : l.length = n) (hc : cs.toList = T2 l) : Tms w w.heap.size (some ⟨g, 0, none⟩) n l := by
  have hs : cs.size = n * 2 := by rw [← Array.length_toList, hc, T2_len, hl]
  have hr := reads_blk (size := 2) h hs
  rw [hc] at hr
  exact ⟨hl, hr.more h.lt⟩
/-- Order, of timers whose order is known. -/
theorem order_lit (l o : List Tm) (n m : Nat) (hn : l.length = n) (hmx : n ≤ maxLen) (he : ordE l = 0) (ho : ordO l = o) (hm : o.length = m) (A : Option Addr) (c : Nat) (w : World) (ht : Tms w w.heap.size A n l) : Calls Try.prog 9 #[.slice A n c] w fun en w' => ∃ A' c', en = .returned (.tuple #[.slice A' m c', .int .i64 0]) ∧ w'.ownsRow w.heap.size 35 2 (.slice A' m c') m (T2 o) ∧ Below w.heap.size w w' := by
  have h := order_any A n c l hmx w ht
  unfold OrdPost at h
  rw [he, ho, hm] at h
  exact h
theorem due_lit (l a b : List Tm) (now : Int) (n m k : Nat) (hn : n ≤ 5000) (he : dueE l now = 0) (ha : dueA l now = a) (hb : dueB l now = b) (hm : a.length = m) (hk : b.length = k) (A : Option Addr) (c : Nat) (w : World) (ht : Tms w w.heap.size A n l) : Calls Try.prog 14 #[.slice A n c, .int .i64 now] w fun en w' => ∃ A' c' A2 c2, en = .returned (.tuple #[.slice A' m c', .slice A2 k c2, .int .i64 0]) ∧ w'.ownsRow w.heap.size 35 2 (.slice A' m c') m (T2 a) ∧ w'.ownsRow w.heap.size 35 2 (.slice A2 k c2) k (T2 b) ∧ Apart (.slice A' m c') (.slice A2 k c2) ∧ Below w.heap.size w w' := by
  have h := due_any A n c l now hn w ht
  unfold DuePost at h
  rw [he, ha, hb, hm, hk] at h
  exact h
set_option maxRecDepth 100000 in
set_option maxHeartbeats 16000000 in
theorem alive_any (w : World) : Calls Try.prog 13 #[] w fun en w' => en = .returned (.bool true) ∧ Below w.heap.size w w' := by
  have gB : Hid (Below w.heap.size w w) := Lib.hid (Below.refl _ _)
  go_enter Try.func13, Try.ntmps13
  go_wp2_with fail
  refine (t_any 5 1 w).mono ?_
  rintro en x1 ⟨rfl, hb⟩
  have sx1 := hb.size
  replace gB := Lib.hid (gB.out.trans (hb.mono gB.out.size))
  clear hb
  go_wp2_with fail
  refine (t_any 3 9 x1).mono ?_
  rintro en x2 ⟨rfl, hb⟩
  have sx2 := hb.size
  replace gB := Lib.hid (gB.out.trans (hb.mono gB.out.size))
  clear hb
  go_wp2_with fail
  refine (t_any 5 0 x2).mono ?_
  rintro en x3 ⟨rfl, hb⟩
  have sx3 := hb.size
  replace gB := Lib.hid (gB.out.trans (hb.mono gB.out.size))
  clear hb
  go_wp2_with fail
  refine (t_any 3 9 x3).mono ?_
  rintro en x4 ⟨rfl, hb⟩
  have sx4 := hb.size
  replace gB := Lib.hid (gB.out.trans (hb.mono gB.out.size))
  clear hb
  obtain ⟨y4, hy4⟩ : ∃ W, W = x4.alloc (.cells #[.int .i64 5, .int .i64 1, .int .i64 3, .int .i64 9, .int .i64 5, .int .i64 0, .int .i64 3, .int .i64 9] 35) := ⟨_, rfl⟩
  have hb : Below x4.heap.size x4 y4 := by rw [hy4]; exact (Below.refl _ _).alloc (Nat.le_refl _) _
  have kz0 : Hid (Blk y4 x4.heap.size 35 #[.int .i64 5, .int .i64 1, .int .i64 3, .int .i64 9, .int .i64 5, .int .i64 0, .int .i64 3, .int .i64 9]) := Lib.hid (by rw [hy4]; exact Blk.new _ _ _)
  have sy4 := hb.size
  replace gB := Lib.hid (gB.out.trans (hb.mono gB.out.size))
  clear hb
  go_wp2_with fail
  rw [← hy4]
  clear hy4
  refine (order_lit ([(5, 1), (3, 9), (5, 0), (3, 9)] : List Tm) ([(3, 9), (5, 0), (5, 1)] : List Tm) 4 3 rfl (by unfold maxLen; omega) (by decide) (by decide) rfl (some ⟨x4.heap.size, 0, none⟩) 4 y4 (tms_blk (l := ([(5, 1), (3, 9), (5, 0), (3, 9)] : List Tm)) kz0.out rfl rfl)).mono ?_
  rintro en x5 ⟨Aro, cro, rfl, horo, hb⟩
  have hro : Hid (x5.ownsRow y4.heap.size 35 2 (.slice Aro 3 cro) 3 (T2 ([(3, 9), (5, 0), (5, 1)] : List Tm)) ∧ ([(3, 9), (5, 0), (5, 1)] : List Tm).length = 3) := Lib.hid ⟨horo, rfl⟩
  have iro : Hid (∀ k, (Value.slice Aro 3 cro).ownBlock = some k → y4.heap.size ≤ k ∧ k < x5.heap.size) := Lib.hid (fun k hk => ⟨own_base horo hk, own_lt horo hk⟩)
  clear horo
  have sx5 := hb.size
  replace kz0 := Lib.hid (kz0.out.below hb kz0.out.lt)
  replace gB := Lib.hid (gB.out.trans (hb.mono gB.out.size))
  clear hb
  go_wp2_with fail
  refine (due_lit ([(3, 9), (5, 0), (5, 1)] : List Tm) ([(3, 9)] : List Tm) ([(5, 0), (5, 1)] : List Tm) 3 3 1 2 (by omega) (by decide) (by decide) (by decide) rfl rfl Aro cro x5 (Tms.of_own hro.out.1 hro.out.2)).mono ?_
  rintro en x6 ⟨Ada, cda, Adb, cdb, rfl, hoda, hodb, hap, hb⟩
  clear hap
  have hda : Hid (x6.ownsRow x5.heap.size 35 2 (.slice Ada 1 cda) 1 (T2 ([(3, 9)] : List Tm)) ∧ ([(3, 9)] : List Tm).length = 1) := Lib.hid ⟨hoda, rfl⟩
  have ida : Hid (∀ k, (Value.slice Ada 1 cda).ownBlock = some k → x5.heap.size ≤ k ∧ k < x6.heap.size) := Lib.hid (fun k hk => ⟨own_base hoda hk, own_lt hoda hk⟩)
  clear hoda
  have hdb : Hid (x6.ownsRow x5.heap.size 35 2 (.slice Adb 2 cdb) 2 (T2 ([(5, 0), (5, 1)] : List Tm)) ∧ ([(5, 0), (5, 1)] : List Tm).length = 2) := Lib.hid ⟨hodb, rfl⟩
  have idb : Hid (∀ k, (Value.slice Adb 2 cdb).ownBlock = some k → x5.heap.size ≤ k ∧ k < x6.heap.size) := Lib.hid (fun k hk => ⟨own_base hodb hk, own_lt hodb hk⟩)
  clear hodb
  have sx6 := hb.size
  replace hro := Lib.hid (And.intro (own_below hro.out.1 hb) hro.out.2)
  replace kz0 := Lib.hid (kz0.out.below hb kz0.out.lt)
  replace gB := Lib.hid (gB.out.trans (hb.mono gB.out.size))
  clear hb
  go_wp2_with fail
  refine (due_lit ([(3, 9), (5, 0), (5, 1)] : List Tm) ([] : List Tm) ([(3, 9), (5, 0), (5, 1)] : List Tm) 2 3 0 3 (by omega) (by decide) (by decide) (by decide) rfl rfl Aro cro x6 (Tms.of_own hro.out.1 hro.out.2)).mono ?_
  rintro en x7 ⟨Adc, cdc, Adx, cdx, rfl, hodc, hodx, hap, hb⟩
  clear hap
  have hdc : Hid (x7.ownsRow x6.heap.size 35 2 (.slice Adc 0 cdc) 0 (T2 ([] : List Tm)) ∧ ([] : List Tm).length = 0) := Lib.hid ⟨hodc, rfl⟩
  have idc : Hid (∀ k, (Value.slice Adc 0 cdc).ownBlock = some k → x6.heap.size ≤ k ∧ k < x7.heap.size) := Lib.hid (fun k hk => ⟨own_base hodc hk, own_lt hodc hk⟩)
  clear hodc
  have hdx : Hid (x7.ownsRow x6.heap.size 35 2 (.slice Adx 3 cdx) 3 (T2 ([(3, 9), (5, 0), (5, 1)] : List Tm)) ∧ ([(3, 9), (5, 0), (5, 1)] : List Tm).length = 3) := Lib.hid ⟨hodx, rfl⟩
  have idx : Hid (∀ k, (Value.slice Adx 3 cdx).ownBlock = some k → x6.heap.size ≤ k ∧ k < x7.heap.size) := Lib.hid (fun k hk => ⟨own_base hodx hk, own_lt hodx hk⟩)
  clear hodx
  have sx7 := hb.size
  replace hro := Lib.hid (And.intro (own_below hro.out.1 hb) hro.out.2)
  replace hda := Lib.hid (And.intro (own_below hda.out.1 hb) hda.out.2)
  replace hdb := Lib.hid (And.intro (own_below hdb.out.1 hb) hdb.out.2)
  replace kz0 := Lib.hid (kz0.out.below hb kz0.out.lt)
  replace gB := Lib.hid (gB.out.trans (hb.mono gB.out.size))
  clear hb
  go_wp2_with fail
  refine (due_lit ([(3, 9), (5, 0), (5, 1)] : List Tm) ([(3, 9), (5, 0), (5, 1)] : List Tm) ([] : List Tm) 5 3 3 0 (by omega) (by decide) (by decide) (by decide) rfl rfl Aro cro x7 (Tms.of_own hro.out.1 hro.out.2)).mono ?_
  rintro en x8 ⟨Add, cdd, Adh, cdh, rfl, hodd, hodh, hap, hb⟩
  clear hap
  have hdd : Hid (x8.ownsRow x7.heap.size 35 2 (.slice Add 3 cdd) 3 (T2 ([(3, 9), (5, 0), (5, 1)] : List Tm)) ∧ ([(3, 9), (5, 0), (5, 1)] : List Tm).length = 3) := Lib.hid ⟨hodd, rfl⟩
  have idd : Hid (∀ k, (Value.slice Add 3 cdd).ownBlock = some k → x7.heap.size ≤ k ∧ k < x8.heap.size) := Lib.hid (fun k hk => ⟨own_base hodd hk, own_lt hodd hk⟩)
  clear hodd
  have hdh : Hid (x8.ownsRow x7.heap.size 35 2 (.slice Adh 0 cdh) 0 (T2 ([] : List Tm)) ∧ ([] : List Tm).length = 0) := Lib.hid ⟨hodh, rfl⟩
  have idh : Hid (∀ k, (Value.slice Adh 0 cdh).ownBlock = some k → x7.heap.size ≤ k ∧ k < x8.heap.size) := Lib.hid (fun k hk => ⟨own_base hodh hk, own_lt hodh hk⟩)
  clear hodh
  have sx8 := hb.size
  replace hro := Lib.hid (And.intro (own_below hro.out.1 hb) hro.out.2)
  replace hda := Lib.hid (And.intro (own_below hda.out.1 hb) hda.out.2)
  replace hdb := Lib.hid (And.intro (own_below hdb.out.1 hb) hdb.out.2)
  replace hdc := Lib.hid (And.intro (own_below hdc.out.1 hb) hdc.out.2)
  replace hdx := Lib.hid (And.intro (own_below hdx.out.1 hb) hdx.out.2)
  replace kz0 := Lib.hid (kz0.out.below hb kz0.out.lt)
  replace gB := Lib.hid (gB.out.trans (hb.mono gB.out.size))
  clear hb
  go_wp2_with fail
  refine (t_any 3 9 x8).mono ?_
  rintro en x9 ⟨rfl, hb⟩
  have sx9 := hb.size
  replace hro := Lib.hid (And.intro (own_below hro.out.1 hb) hro.out.2)
  replace hda := Lib.hid (And.intro (own_below hda.out.1 hb) hda.out.2)
  replace hdb := Lib.hid (And.intro (own_below hdb.out.1 hb) hdb.out.2)
  replace hdc := Lib.hid (And.intro (own_below hdc.out.1 hb) hdc.out.2)
  replace hdx := Lib.hid (And.intro (own_below hdx.out.1 hb) hdx.out.2)
  replace hdd := Lib.hid (And.intro (own_below hdd.out.1 hb) hdd.out.2)
  replace hdh := Lib.hid (And.intro (own_below hdh.out.1 hb) hdh.out.2)
  replace kz0 := Lib.hid (kz0.out.below hb kz0.out.lt)
  replace gB := Lib.hid (gB.out.trans (hb.mono gB.out.size))
  clear hb
  go_wp2_with fail
  refine (t_any 5 0 x9).mono ?_
  rintro en x10 ⟨rfl, hb⟩
  have sx10 := hb.size
  replace hro := Lib.hid (And.intro (own_below hro.out.1 hb) hro.out.2)
  replace hda := Lib.hid (And.intro (own_below hda.out.1 hb) hda.out.2)
  replace hdb := Lib.hid (And.intro (own_below hdb.out.1 hb) hdb.out.2)
  replace hdc := Lib.hid (And.intro (own_below hdc.out.1 hb) hdc.out.2)
  replace hdx := Lib.hid (And.intro (own_below hdx.out.1 hb) hdx.out.2)
  replace hdd := Lib.hid (And.intro (own_below hdd.out.1 hb) hdd.out.2)
  replace hdh := Lib.hid (And.intro (own_below hdh.out.1 hb) hdh.out.2)
  replace kz0 := Lib.hid (kz0.out.below hb kz0.out.lt)
  replace gB := Lib.hid (gB.out.trans (hb.mono gB.out.size))
  clear hb
  go_wp2_with fail
  refine (t_any 5 1 x10).mono ?_
  rintro en x11 ⟨rfl, hb⟩
  have sx11 := hb.size
  replace hro := Lib.hid (And.intro (own_below hro.out.1 hb) hro.out.2)
  replace hda := Lib.hid (And.intro (own_below hda.out.1 hb) hda.out.2)
  replace hdb := Lib.hid (And.intro (own_below hdb.out.1 hb) hdb.out.2)
  replace hdc := Lib.hid (And.intro (own_below hdc.out.1 hb) hdc.out.2)
  replace hdx := Lib.hid (And.intro (own_below hdx.out.1 hb) hdx.out.2)
  replace hdd := Lib.hid (And.intro (own_below hdd.out.1 hb) hdd.out.2)
  replace hdh := Lib.hid (And.intro (own_below hdh.out.1 hb) hdh.out.2)
  replace kz0 := Lib.hid (kz0.out.below hb kz0.out.lt)
  replace gB := Lib.hid (gB.out.trans (hb.mono gB.out.size))
  clear hb
  obtain ⟨y11, hy11⟩ : ∃ W, W = x11.alloc (.cells #[.int .i64 3, .int .i64 9, .int .i64 5, .int .i64 0, .int .i64 5, .int .i64 1] 35) := ⟨_, rfl⟩
  have hb : Below x11.heap.size x11 y11 := by rw [hy11]; exact (Below.refl _ _).alloc (Nat.le_refl _) _
  have kz1 : Hid (Blk y11 x11.heap.size 35 #[.int .i64 3, .int .i64 9, .int .i64 5, .int .i64 0, .int .i64 5, .int .i64 1]) := Lib.hid (by rw [hy11]; exact Blk.new _ _ _)
  have sy11 := hb.size
  replace hro := Lib.hid (And.intro (own_below hro.out.1 hb) hro.out.2)
  replace hda := Lib.hid (And.intro (own_below hda.out.1 hb) hda.out.2)
  replace hdb := Lib.hid (And.intro (own_below hdb.out.1 hb) hdb.out.2)
  replace hdc := Lib.hid (And.intro (own_below hdc.out.1 hb) hdc.out.2)
  replace hdx := Lib.hid (And.intro (own_below hdx.out.1 hb) hdx.out.2)
  replace hdd := Lib.hid (And.intro (own_below hdd.out.1 hb) hdd.out.2)
  replace hdh := Lib.hid (And.intro (own_below hdh.out.1 hb) hdh.out.2)
  replace kz0 := Lib.hid (kz0.out.below hb kz0.out.lt)
  replace gB := Lib.hid (gB.out.trans (hb.mono gB.out.size))
  clear hb
  go_wp2_with fail
  rw [← hy11]
  clear hy11
  refine (rsame_any Aro (some ⟨x11.heap.size, 0, none⟩) 3 3 cro 3 ([(3, 9), (5, 0), (5, 1)] : List Tm) ([(3, 9), (5, 0), (5, 1)] : List Tm) (own_max hro.out.1) y11 (Tms.of_own hro.out.1 hro.out.2) (tms_blk (l := ([(3, 9), (5, 0), (5, 1)] : List Tm)) kz1.out rfl rfl) true (decide_eq_true rfl)).mono ?_
  rintro en x12 ⟨rfl, hb⟩
  have sx12 := hb.size
  replace hro := Lib.hid (And.intro (own_below hro.out.1 hb) hro.out.2)
  replace hda := Lib.hid (And.intro (own_below hda.out.1 hb) hda.out.2)
  replace hdb := Lib.hid (And.intro (own_below hdb.out.1 hb) hdb.out.2)
  replace hdc := Lib.hid (And.intro (own_below hdc.out.1 hb) hdc.out.2)
  replace hdx := Lib.hid (And.intro (own_below hdx.out.1 hb) hdx.out.2)
  replace hdd := Lib.hid (And.intro (own_below hdd.out.1 hb) hdd.out.2)
  replace hdh := Lib.hid (And.intro (own_below hdh.out.1 hb) hdh.out.2)
  replace kz0 := Lib.hid (kz0.out.below hb kz0.out.lt)
  replace kz1 := Lib.hid (kz1.out.below hb kz1.out.lt)
  replace gB := Lib.hid (gB.out.trans (hb.mono gB.out.size))
  clear hb
  go_wp2_with fail
  refine (t_any 3 9 x12).mono ?_
  rintro en x13 ⟨rfl, hb⟩
  have sx13 := hb.size
  replace hro := Lib.hid (And.intro (own_below hro.out.1 hb) hro.out.2)
  replace hda := Lib.hid (And.intro (own_below hda.out.1 hb) hda.out.2)
  replace hdb := Lib.hid (And.intro (own_below hdb.out.1 hb) hdb.out.2)
  replace hdc := Lib.hid (And.intro (own_below hdc.out.1 hb) hdc.out.2)
  replace hdx := Lib.hid (And.intro (own_below hdx.out.1 hb) hdx.out.2)
  replace hdd := Lib.hid (And.intro (own_below hdd.out.1 hb) hdd.out.2)
  replace hdh := Lib.hid (And.intro (own_below hdh.out.1 hb) hdh.out.2)
  replace kz0 := Lib.hid (kz0.out.below hb kz0.out.lt)
  replace kz1 := Lib.hid (kz1.out.below hb kz1.out.lt)
  replace gB := Lib.hid (gB.out.trans (hb.mono gB.out.size))
  clear hb
  obtain ⟨y13, hy13⟩ : ∃ W, W = x13.alloc (.cells #[.int .i64 3, .int .i64 9] 35) := ⟨_, rfl⟩
  have hb : Below x13.heap.size x13 y13 := by rw [hy13]; exact (Below.refl _ _).alloc (Nat.le_refl _) _
  have kz2 : Hid (Blk y13 x13.heap.size 35 #[.int .i64 3, .int .i64 9]) := Lib.hid (by rw [hy13]; exact Blk.new _ _ _)
  have sy13 := hb.size
  replace hro := Lib.hid (And.intro (own_below hro.out.1 hb) hro.out.2)
  replace hda := Lib.hid (And.intro (own_below hda.out.1 hb) hda.out.2)
  replace hdb := Lib.hid (And.intro (own_below hdb.out.1 hb) hdb.out.2)
  replace hdc := Lib.hid (And.intro (own_below hdc.out.1 hb) hdc.out.2)
  replace hdx := Lib.hid (And.intro (own_below hdx.out.1 hb) hdx.out.2)
  replace hdd := Lib.hid (And.intro (own_below hdd.out.1 hb) hdd.out.2)
  replace hdh := Lib.hid (And.intro (own_below hdh.out.1 hb) hdh.out.2)
  replace kz0 := Lib.hid (kz0.out.below hb kz0.out.lt)
  replace kz1 := Lib.hid (kz1.out.below hb kz1.out.lt)
  replace gB := Lib.hid (gB.out.trans (hb.mono gB.out.size))
  clear hb
  go_wp2_with fail
  rw [← hy13]
  clear hy13
  refine (rsame_any Ada (some ⟨x13.heap.size, 0, none⟩) 1 1 cda 1 ([(3, 9)] : List Tm) ([(3, 9)] : List Tm) (own_max hda.out.1) y13 (Tms.of_own hda.out.1 hda.out.2) (tms_blk (l := ([(3, 9)] : List Tm)) kz2.out rfl rfl) true (decide_eq_true rfl)).mono ?_
  rintro en x14 ⟨rfl, hb⟩
  have sx14 := hb.size
  replace hro := Lib.hid (And.intro (own_below hro.out.1 hb) hro.out.2)
  replace hda := Lib.hid (And.intro (own_below hda.out.1 hb) hda.out.2)
  replace hdb := Lib.hid (And.intro (own_below hdb.out.1 hb) hdb.out.2)
  replace hdc := Lib.hid (And.intro (own_below hdc.out.1 hb) hdc.out.2)
  replace hdx := Lib.hid (And.intro (own_below hdx.out.1 hb) hdx.out.2)
  replace hdd := Lib.hid (And.intro (own_below hdd.out.1 hb) hdd.out.2)
  replace hdh := Lib.hid (And.intro (own_below hdh.out.1 hb) hdh.out.2)
  replace kz0 := Lib.hid (kz0.out.below hb kz0.out.lt)
  replace kz1 := Lib.hid (kz1.out.below hb kz1.out.lt)
  replace kz2 := Lib.hid (kz2.out.below hb kz2.out.lt)
  replace gB := Lib.hid (gB.out.trans (hb.mono gB.out.size))
  clear hb
  go_wp2_with fail
  refine (rsame_any Add Aro 3 3 cdd cro ([(3, 9), (5, 0), (5, 1)] : List Tm) ([(3, 9), (5, 0), (5, 1)] : List Tm) (own_max hdd.out.1) x14 (Tms.of_own hdd.out.1 hdd.out.2) (Tms.of_own hro.out.1 hro.out.2) true (decide_eq_true rfl)).mono ?_
  rintro en x15 ⟨rfl, hb⟩
  have sx15 := hb.size
  replace hro := Lib.hid (And.intro (own_below hro.out.1 hb) hro.out.2)
  replace hda := Lib.hid (And.intro (own_below hda.out.1 hb) hda.out.2)
  replace hdb := Lib.hid (And.intro (own_below hdb.out.1 hb) hdb.out.2)
  replace hdc := Lib.hid (And.intro (own_below hdc.out.1 hb) hdc.out.2)
  replace hdx := Lib.hid (And.intro (own_below hdx.out.1 hb) hdx.out.2)
  replace hdd := Lib.hid (And.intro (own_below hdd.out.1 hb) hdd.out.2)
  replace hdh := Lib.hid (And.intro (own_below hdh.out.1 hb) hdh.out.2)
  replace kz0 := Lib.hid (kz0.out.below hb kz0.out.lt)
  replace kz1 := Lib.hid (kz1.out.below hb kz1.out.lt)
  replace kz2 := Lib.hid (kz2.out.below hb kz2.out.lt)
  replace gB := Lib.hid (gB.out.trans (hb.mono gB.out.size))
  clear hb
  go_wp2
  go_ret
  exact ⟨rfl, gB.out⟩
end Go.Proofs.Ythageikchniahaa
