/- Limb's Door: alive. -/
import Derived.Test.YtaklmkjldmbleaaDoorQ
namespace Go.Proofs.YtaklmkjldmbleaaDoor
open Go.ChangeShapes Go.WideShapes Go.ChangeAt Go.RowKit
set_option linter.unusedSimpArgs false
set_option linter.unusedVariables false
/-- A literal of limbs, built. -/
theorem lit_reads (w : World) (l : List Nat) {n : Nat} (hn : l.length = n) : Reads (w.alloc (.cells (ints .u32 l).toArray 45)) (w.heap.size + 1) 1 (some ⟨w.heap.size, 0, none⟩) n (ints .u32 l) :=
  reads_new w (ints .u32 l) 45 n (by simpa using hn)
set_option maxHeartbeats 8000000 in
theorem alive_any (w : World) (hT : Tab w) : Calls Tryd.prog 19 #[] w fun en w' => en = .returned (.bool true) ∧ Below w.heap.size w w' := by
  have bw := Below.refl w.heap.size w
  go_enter Tryd.func19, Tryd.ntmps19
  go_wp2_with fail
  refine (ofR (x := 4294967296) (L := [0, 1]) (m := 2) (by decide) e32 rfl _).mono ?_
  rintro en v1 ⟨Aa, rfl, ra, hb⟩
  replace hT := hT.below hb hT.2
  replace bw := bw.trans (hb.mono bw.size)
  clear hb
  go_wp2_with fail
  refine (ofR (x := 1) (L := [1]) (m := 1) (by decide) e1 rfl _).mono ?_
  rintro en v2 ⟨Ab, rfl, rb, hb⟩
  replace hT := hT.below hb hT.2
  replace ra := (ra.below hb).more hb.size
  replace bw := bw.trans (hb.mono bw.size)
  clear hb
  go_wp2_with fail
  refine (subR (a := [0, 1]) (b := [1]) (L := [4294967295]) (E := 0) (m := 1) rfl Aa Ab 2 1 rfl rfl (lit_lt (by decide)) (lit_lt (by decide)) _ ra rb sub_ex).mono ?_
  rintro en v3 ⟨Ac, cc, rfl, hcc, rc, hb⟩
  replace hT := hT.below hb hT.2
  replace ra := (ra.below hb).more hb.size
  replace rb := (rb.below hb).more hb.size
  replace bw := bw.trans (hb.mono bw.size)
  clear hb
  go_wp2_with fail
  clear rb
  refine (ofR (x := 10) (L := [10]) (m := 1) (by decide) e10 rfl _).mono ?_
  rintro en v4 ⟨Ad, rfl, rd, hb⟩
  replace hT := hT.below hb hT.2
  replace ra := (ra.below hb).more hb.size
  replace rc := (rc.below hb).more hb.size
  replace bw := bw.trans (hb.mono bw.size)
  clear hb
  go_wp2_with fail
  refine (ofR (x := 3) (L := [3]) (m := 1) (by decide) e3 rfl _).mono ?_
  rintro en v5 ⟨Ae, rfl, re, hb⟩
  replace hT := hT.below hb hT.2
  replace ra := (ra.below hb).more hb.size
  replace rc := (rc.below hb).more hb.size
  replace rd := (rd.below hb).more hb.size
  replace bw := bw.trans (hb.mono bw.size)
  clear hb
  go_wp2_with fail
  refine (divR (a := [10]) (b := [3]) (q := [3]) (r := [1]) (E := 0) Ad Ae 1 1 rfl rfl (lit_lt (by decide)) (lit_lt (by decide)) _ rd re (mq := 1) (mr := 1) rfl rfl div_ex).mono ?_
  rintro en v6 ⟨Af, cf, Ag, cg, rfl, rf, rg, hb⟩
  replace hT := hT.below hb hT.2
  replace ra := (ra.below hb).more hb.size
  replace rc := (rc.below hb).more hb.size
  replace rd := (rd.below hb).more hb.size
  replace re := (re.below hb).more hb.size
  replace bw := bw.trans (hb.mono bw.size)
  clear hb
  go_wp2_with fail
  clear rd re
  refine (ofR (x := 12) (L := [12]) (m := 1) (by decide) e12 rfl _).mono ?_
  rintro en v7 ⟨Ah, rfl, rh, hb⟩
  replace hT := hT.below hb hT.2
  replace ra := (ra.below hb).more hb.size
  replace rc := (rc.below hb).more hb.size
  replace rf := (rf.below hb).more hb.size
  replace rg := (rg.below hb).more hb.size
  replace bw := bw.trans (hb.mono bw.size)
  clear hb
  go_wp2_with fail
  refine (lowR (a := [12]) Ah 1 rfl (lit_lt (by decide)) _ rh hT low_ex).mono ?_
  rintro en v8 ⟨rfl, hb⟩
  replace hT := hT.below hb hT.2
  replace ra := (ra.below hb).more hb.size
  replace rc := (rc.below hb).more hb.size
  replace rf := (rf.below hb).more hb.size
  replace rg := (rg.below hb).more hb.size
  replace rh := (rh.below hb).more hb.size
  replace bw := bw.trans (hb.mono bw.size)
  clear hb
  go_wp2_with fail
  clear rh
  refine (ofR (x := 12) (L := [12]) (m := 1) (by decide) e12 rfl _).mono ?_
  rintro en v9 ⟨Ai, rfl, ri, hb⟩
  replace hT := hT.below hb hT.2
  replace ra := (ra.below hb).more hb.size
  replace rc := (rc.below hb).more hb.size
  replace rf := (rf.below hb).more hb.size
  replace rg := (rg.below hb).more hb.size
  replace bw := bw.trans (hb.mono bw.size)
  clear hb
  go_wp2_with fail
  refine (bitsR (a := [12]) Ai 1 rfl (lit_lt (by decide)) _ ri bits_ex).mono ?_
  rintro en v10 ⟨rfl, hb⟩
  replace hT := hT.below hb hT.2
  replace ra := (ra.below hb).more hb.size
  replace rc := (rc.below hb).more hb.size
  replace rf := (rf.below hb).more hb.size
  replace rg := (rg.below hb).more hb.size
  replace ri := (ri.below hb).more hb.size
  replace bw := bw.trans (hb.mono bw.size)
  clear hb
  go_wp2_with fail
  clear ri
  clear hT
  obtain ⟨u1, hu1⟩ : ∃ V, V = v10.alloc (.cells #[.int .u32 0, .int .u32 1] 45) := ⟨_, rfl⟩
  rw [← hu1]
  have rl1 : Reads u1 u1.heap.size 1 (some ⟨v10.heap.size, 0, none⟩) 2 (ints .u32 [0, 1]) := by rw [hu1, World.size_alloc]; exact lit_reads v10 [0, 1] rfl
  have hb : Below v10.heap.size v10 u1 := by rw [hu1]; exact (Below.refl _ _).alloc (Nat.le_refl _) _
  clear hu1
  replace ra := (ra.below hb).more hb.size
  replace rc := (rc.below hb).more hb.size
  replace rf := (rf.below hb).more hb.size
  replace rg := (rg.below hb).more hb.size
  replace bw := bw.trans (hb.mono bw.size)
  clear hb
  refine (isR (a := [0, 1]) (b := [0, 1]) Aa (some ⟨v10.heap.size, 0, none⟩) 2 2 rfl rfl _ ra rl1 (n := 2) (n2 := 2) (Q := true) (by omega) (by omega) rfl).mono ?_
  rintro en v11 ⟨rfl, hb⟩
  replace ra := (ra.below hb).more hb.size
  replace rc := (rc.below hb).more hb.size
  replace rf := (rf.below hb).more hb.size
  replace rg := (rg.below hb).more hb.size
  replace rl1 := (rl1.below hb).more hb.size
  replace bw := bw.trans (hb.mono bw.size)
  clear hb
  go_wp2_with fail
  clear rl1 ra
  obtain ⟨u2, hu2⟩ : ∃ V, V = v11.alloc (.cells #[.int .u32 4294967295] 45) := ⟨_, rfl⟩
  rw [← hu2]
  have rl2 : Reads u2 u2.heap.size 1 (some ⟨v11.heap.size, 0, none⟩) 1 (ints .u32 [4294967295]) := by rw [hu2, World.size_alloc]; exact lit_reads v11 [4294967295] rfl
  have hb : Below v11.heap.size v11 u2 := by rw [hu2]; exact (Below.refl _ _).alloc (Nat.le_refl _) _
  clear hu2
  replace rc := (rc.below hb).more hb.size
  replace rf := (rf.below hb).more hb.size
  replace rg := (rg.below hb).more hb.size
  replace bw := bw.trans (hb.mono bw.size)
  clear hb
  refine (isR (a := [4294967295]) (b := [4294967295]) Ac (some ⟨v11.heap.size, 0, none⟩) cc 1 rfl rfl _ rc rl2 (n := 1) (n2 := 1) (Q := true) (by omega) (by omega) rfl).mono ?_
  rintro en v12 ⟨rfl, hb⟩
  replace rc := (rc.below hb).more hb.size
  replace rf := (rf.below hb).more hb.size
  replace rg := (rg.below hb).more hb.size
  replace rl2 := (rl2.below hb).more hb.size
  replace bw := bw.trans (hb.mono bw.size)
  clear hb
  go_wp2_with fail
  clear rl2 rc
  obtain ⟨u3, hu3⟩ : ∃ V, V = v12.alloc (.cells #[.int .u32 3] 45) := ⟨_, rfl⟩
  rw [← hu3]
  have rl3 : Reads u3 u3.heap.size 1 (some ⟨v12.heap.size, 0, none⟩) 1 (ints .u32 [3]) := by rw [hu3, World.size_alloc]; exact lit_reads v12 [3] rfl
  have hb : Below v12.heap.size v12 u3 := by rw [hu3]; exact (Below.refl _ _).alloc (Nat.le_refl _) _
  clear hu3
  replace rf := (rf.below hb).more hb.size
  replace rg := (rg.below hb).more hb.size
  replace bw := bw.trans (hb.mono bw.size)
  clear hb
  refine (isR (a := [3]) (b := [3]) Af (some ⟨v12.heap.size, 0, none⟩) cf 1 rfl rfl _ rf rl3 (n := 1) (n2 := 1) (Q := true) (by omega) (by omega) rfl).mono ?_
  rintro en v13 ⟨rfl, hb⟩
  replace rf := (rf.below hb).more hb.size
  replace rg := (rg.below hb).more hb.size
  replace rl3 := (rl3.below hb).more hb.size
  replace bw := bw.trans (hb.mono bw.size)
  clear hb
  go_wp2_with fail
  clear rl3 rf
  obtain ⟨u4, hu4⟩ : ∃ V, V = v13.alloc (.cells #[.int .u32 1] 45) := ⟨_, rfl⟩
  rw [← hu4]
  have rl4 : Reads u4 u4.heap.size 1 (some ⟨v13.heap.size, 0, none⟩) 1 (ints .u32 [1]) := by rw [hu4, World.size_alloc]; exact lit_reads v13 [1] rfl
  have hb : Below v13.heap.size v13 u4 := by rw [hu4]; exact (Below.refl _ _).alloc (Nat.le_refl _) _
  clear hu4
  replace rg := (rg.below hb).more hb.size
  replace bw := bw.trans (hb.mono bw.size)
  clear hb
  refine (isR (a := [1]) (b := [1]) Ag (some ⟨v13.heap.size, 0, none⟩) cg 1 rfl rfl _ rg rl4 (n := 1) (n2 := 1) (Q := true) (by omega) (by omega) rfl).mono ?_
  rintro en v14 ⟨rfl, hb⟩
  replace rg := (rg.below hb).more hb.size
  replace rl4 := (rl4.below hb).more hb.size
  replace bw := bw.trans (hb.mono bw.size)
  clear hb
  go_wp2
  clear rl4 rg
  go_ret
  exact ⟨rfl, bw⟩
end Go.Proofs.YtaklmkjldmbleaaDoor
