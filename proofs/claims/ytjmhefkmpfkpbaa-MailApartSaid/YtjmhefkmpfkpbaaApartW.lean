/- Mail: MailApart's walk -/
import Derived.Test.YtjmhefkmpfkpbaaPT
namespace Go.Proofs.Ytjmhefkmpfkpbaa
open Go.ChangeShapes Go.WideShapes Go.ChangeAt Go.RowKit
set_option linter.unusedSimpArgs false
set_option linter.unusedVariables false
set_option maxRecDepth 100000 in
set_option maxHeartbeats 16000000 in
theorem apart_walk (a b : MO) (la : ltL a.x) (lb : ltL b.x) (hka : 0 ≤ a.x.kd ∧ a.x.kd < 256) (hkb : 0 ≤ b.x.kd ∧ b.x.kd < 256) (w : World) (ra : rdL w w.heap.size a) (rb : rdL w w.heap.size b) : Calls Try.prog 3 #[aggL a, aggL b] w fun en w' => en = .returned (.bool true) ∧ Below w.heap.size w w' := by
  obtain ⟨V, hV⟩ : ∃ V, V = (w.alloc (.cells #[.int .u8 a.x.kd, .int .i64 a.x.fr, .int .i64 a.x.tt, .int .i64 a.x.ep, .int .i64 a.x.nu, .int .i64 a.x.ab, .bool a.x.give.s.neg, .slice a.X0 a.x.give.s.ls.length a.c0, .int .i64 a.x.give.s.ex, .bool a.x.give.w.neg, .slice a.X1 a.x.give.w.ls.length a.c1, .int .i64 a.x.give.w.ex, .bool a.x.give.c.neg, .slice a.X2 a.x.give.c.ls.length a.c2, .int .i64 a.x.give.c.ex, .bool a.x.give.a.neg, .slice a.X3 a.x.give.a.ls.length a.c3, .int .i64 a.x.give.a.ex, .bool a.x.wa, .slice a.D a.x.ds.length a.dc, .bool a.x.eh, .int .i64 a.x.e1, .int .i64 a.x.e2, .slice a.L a.x.ls.length a.lc] 31)).alloc (.cells #[.int .u8 b.x.kd, .int .i64 b.x.fr, .int .i64 b.x.tt, .int .i64 b.x.ep, .int .i64 b.x.nu, .int .i64 b.x.ab, .bool b.x.give.s.neg, .slice b.X0 b.x.give.s.ls.length b.c0, .int .i64 b.x.give.s.ex, .bool b.x.give.w.neg, .slice b.X1 b.x.give.w.ls.length b.c1, .int .i64 b.x.give.w.ex, .bool b.x.give.c.neg, .slice b.X2 b.x.give.c.ls.length b.c2, .int .i64 b.x.give.c.ex, .bool b.x.give.a.neg, .slice b.X3 b.x.give.a.ls.length b.c3, .int .i64 b.x.give.a.ex, .bool b.x.wa, .slice b.D b.x.ds.length b.dc, .bool b.x.eh, .int .i64 b.x.e1, .int .i64 b.x.e2, .slice b.L b.x.ls.length b.lc] 31) := ⟨_, rfl⟩
  have gB : Hid (Below w.heap.size w V) := Lib.hid (by rw [hV]; exact ((Below.refl _ _).alloc (Nat.le_refl _) _).alloc (by simp) _)
  have ka : Hid (Blk V w.heap.size 31 #[.int .u8 a.x.kd, .int .i64 a.x.fr, .int .i64 a.x.tt, .int .i64 a.x.ep, .int .i64 a.x.nu, .int .i64 a.x.ab, .bool a.x.give.s.neg, .slice a.X0 a.x.give.s.ls.length a.c0, .int .i64 a.x.give.s.ex, .bool a.x.give.w.neg, .slice a.X1 a.x.give.w.ls.length a.c1, .int .i64 a.x.give.w.ex, .bool a.x.give.c.neg, .slice a.X2 a.x.give.c.ls.length a.c2, .int .i64 a.x.give.c.ex, .bool a.x.give.a.neg, .slice a.X3 a.x.give.a.ls.length a.c3, .int .i64 a.x.give.a.ex, .bool a.x.wa, .slice a.D a.x.ds.length a.dc, .bool a.x.eh, .int .i64 a.x.e1, .int .i64 a.x.e2, .slice a.L a.x.ls.length a.lc]) := Lib.hid (by rw [hV]; exact (Blk.new w _ _).alloc _)
  have kb : Hid (Blk V (w.heap.size + 1) 31 #[.int .u8 b.x.kd, .int .i64 b.x.fr, .int .i64 b.x.tt, .int .i64 b.x.ep, .int .i64 b.x.nu, .int .i64 b.x.ab, .bool b.x.give.s.neg, .slice b.X0 b.x.give.s.ls.length b.c0, .int .i64 b.x.give.s.ex, .bool b.x.give.w.neg, .slice b.X1 b.x.give.w.ls.length b.c1, .int .i64 b.x.give.w.ex, .bool b.x.give.c.neg, .slice b.X2 b.x.give.c.ls.length b.c2, .int .i64 b.x.give.c.ex, .bool b.x.give.a.neg, .slice b.X3 b.x.give.a.ls.length b.c3, .int .i64 b.x.give.a.ex, .bool b.x.wa, .slice b.D b.x.ds.length b.dc, .bool b.x.eh, .int .i64 b.x.e1, .int .i64 b.x.e2, .slice b.L b.x.ls.length b.lc]) := Lib.hid (by rw [hV]; simpa using Blk.new (w.alloc (.cells #[.int .u8 a.x.kd, .int .i64 a.x.fr, .int .i64 a.x.tt, .int .i64 a.x.ep, .int .i64 a.x.nu, .int .i64 a.x.ab, .bool a.x.give.s.neg, .slice a.X0 a.x.give.s.ls.length a.c0, .int .i64 a.x.give.s.ex, .bool a.x.give.w.neg, .slice a.X1 a.x.give.w.ls.length a.c1, .int .i64 a.x.give.w.ex, .bool a.x.give.c.neg, .slice a.X2 a.x.give.c.ls.length a.c2, .int .i64 a.x.give.c.ex, .bool a.x.give.a.neg, .slice a.X3 a.x.give.a.ls.length a.c3, .int .i64 a.x.give.a.ex, .bool a.x.wa, .slice a.D a.x.ds.length a.dc, .bool a.x.eh, .int .i64 a.x.e1, .int .i64 a.x.e2, .slice a.L a.x.ls.length a.lc] 31)) 31 #[.int .u8 b.x.kd, .int .i64 b.x.fr, .int .i64 b.x.tt, .int .i64 b.x.ep, .int .i64 b.x.nu, .int .i64 b.x.ab, .bool b.x.give.s.neg, .slice b.X0 b.x.give.s.ls.length b.c0, .int .i64 b.x.give.s.ex, .bool b.x.give.w.neg, .slice b.X1 b.x.give.w.ls.length b.c1, .int .i64 b.x.give.w.ex, .bool b.x.give.c.neg, .slice b.X2 b.x.give.c.ls.length b.c2, .int .i64 b.x.give.c.ex, .bool b.x.give.a.neg, .slice b.X3 b.x.give.a.ls.length b.c3, .int .i64 b.x.give.a.ex, .bool b.x.wa, .slice b.D b.x.ds.length b.dc, .bool b.x.eh, .int .i64 b.x.e1, .int .i64 b.x.e2, .slice b.L b.x.ls.length b.lc])
  unfold aggL
  go_enter Try.func3, Try.ntmps3
  go_upto_region 1 with (fail)
  rw [← hV]
  clear hV
  go_wp2_with fail
  refine (malive_any V).mono ?_
  rintro en w1 ⟨rfl, hb⟩
  replace ka := Lib.hid (ka.out.below hb ka.out.lt)
  replace kb := Lib.hid (kb.out.below hb kb.out.lt)
  replace gB := Lib.hid (gB.out.trans (hb.mono gB.out.size))
  have sw1 := hb.size
  clear hb
  obtain ⟨Q, hQ⟩ : ∃ Q, grL a.x = Q := ⟨_, rfl⟩
  have hg := lgreat_any a w1 Q hQ
  unfold aggL at hg
  have k1 := ka.out
  go_wp2_with (refine wpList_load_row rfl 31 _ rfl w.heap.size rfl 31 #[.int .u8 a.x.kd, .int .i64 a.x.fr, .int .i64 a.x.tt, .int .i64 a.x.ep, .int .i64 a.x.nu, .int .i64 a.x.ab, .bool a.x.give.s.neg, .slice a.X0 a.x.give.s.ls.length a.c0, .int .i64 a.x.give.s.ex, .bool a.x.give.w.neg, .slice a.X1 a.x.give.w.ls.length a.c1, .int .i64 a.x.give.w.ex, .bool a.x.give.c.neg, .slice a.X2 a.x.give.c.ls.length a.c2, .int .i64 a.x.give.c.ex, .bool a.x.give.a.neg, .slice a.X3 a.x.give.a.ls.length a.c3, .int .i64 a.x.give.a.ex, .bool a.x.wa, .slice a.D a.x.ds.length a.dc, .bool a.x.eh, .int .i64 a.x.e1, .int .i64 a.x.e2, .slice a.L a.x.ls.length a.lc] (0, 0) _ k1.row Try.underlying31 rfl (by kernel_rfl) ?_)
  refine hg.mono ?_
  rintro en w2 ⟨rfl, hb⟩
  replace ka := Lib.hid (ka.out.below hb ka.out.lt)
  replace kb := Lib.hid (kb.out.below hb kb.out.lt)
  replace gB := Lib.hid (gB.out.trans (hb.mono gB.out.size))
  clear hb hg k1
  cases Q with
  | true =>
    go_wp2
    go_ret
    exact ⟨rfl, gB.out⟩
  | false =>
    have hsa := grL_sm hQ
    obtain ⟨Q2, hQ2⟩ : ∃ Q, grL b.x = Q := ⟨_, rfl⟩
    have hg := lgreat_any b w2 Q2 hQ2
    unfold aggL at hg
    have k1 := kb.out
    have rg := k1.range 0 [.int .u8 b.x.kd, .int .i64 b.x.fr, .int .i64 b.x.tt, .int .i64 b.x.ep, .int .i64 b.x.nu, .int .i64 b.x.ab, .bool b.x.give.s.neg, .slice b.X0 b.x.give.s.ls.length b.c0, .int .i64 b.x.give.s.ex, .bool b.x.give.w.neg, .slice b.X1 b.x.give.w.ls.length b.c1, .int .i64 b.x.give.w.ex, .bool b.x.give.c.neg, .slice b.X2 b.x.give.c.ls.length b.c2, .int .i64 b.x.give.c.ex, .bool b.x.give.a.neg, .slice b.X3 b.x.give.a.ls.length b.c3, .int .i64 b.x.give.a.ex, .bool b.x.wa, .slice b.D b.x.ds.length b.dc, .bool b.x.eh, .int .i64 b.x.e1, .int .i64 b.x.e2, .slice b.L b.x.ls.length b.lc] rfl
    clear hQ
    go_wp2_with (refine wpList_load_midG 31 _ rfl (by rfl) (w.heap.size + 1) 0 rfl [.int .u8 b.x.kd, .int .i64 b.x.fr, .int .i64 b.x.tt, .int .i64 b.x.ep, .int .i64 b.x.nu, .int .i64 b.x.ab, .bool b.x.give.s.neg, .slice b.X0 b.x.give.s.ls.length b.c0, .int .i64 b.x.give.s.ex, .bool b.x.give.w.neg, .slice b.X1 b.x.give.w.ls.length b.c1, .int .i64 b.x.give.w.ex, .bool b.x.give.c.neg, .slice b.X2 b.x.give.c.ls.length b.c2, .int .i64 b.x.give.c.ex, .bool b.x.give.a.neg, .slice b.X3 b.x.give.a.ls.length b.c3, .int .i64 b.x.give.a.ex, .bool b.x.wa, .slice b.D b.x.ds.length b.dc, .bool b.x.eh, .int .i64 b.x.e1, .int .i64 b.x.e2, .slice b.L b.x.ls.length b.lc] _ rg Try.underlying31 rfl (by kernel_rfl) ?_)
    refine hg.mono ?_
    rintro en w3 ⟨rfl, hb⟩
    replace ka := Lib.hid (ka.out.below hb ka.out.lt)
    replace kb := Lib.hid (kb.out.below hb kb.out.lt)
    replace gB := Lib.hid (gB.out.trans (hb.mono gB.out.size))
    clear hb hg k1 rg
    cases Q2 with
    | true =>
      go_wp2
      go_ret
      exact ⟨rfl, gB.out⟩
    | false =>
      have hsb := grL_sm hQ2
      clear hQ2
      have hw := write_any a hsa la hka w3 (ra.below gB.out gB.out.size)
      have hcv : ∀ v2 w4, Owns w3 w4 v2 (framed a.x.kd.toNat (byP a.x)) → okL a.x → ∀ w', Below w4.heap.size w4 w' → (convert 34 9 v2).run Try.prog w' = .ok (.string (strOf (framed a.x.kd.toNat (byP a.x)))) w' := fun v2 w4 h hok => strV (framed_lt (by omega) (by rw [byP_len]; have := conP_total hok; omega) (byP_lt _)) h
      unfold aggL at hw
      have k1 := ka.out
      go_wp2_with (refine wpList_load_row rfl 31 _ rfl w.heap.size rfl 31 #[.int .u8 a.x.kd, .int .i64 a.x.fr, .int .i64 a.x.tt, .int .i64 a.x.ep, .int .i64 a.x.nu, .int .i64 a.x.ab, .bool a.x.give.s.neg, .slice a.X0 a.x.give.s.ls.length a.c0, .int .i64 a.x.give.s.ex, .bool a.x.give.w.neg, .slice a.X1 a.x.give.w.ls.length a.c1, .int .i64 a.x.give.w.ex, .bool a.x.give.c.neg, .slice a.X2 a.x.give.c.ls.length a.c2, .int .i64 a.x.give.c.ex, .bool a.x.give.a.neg, .slice a.X3 a.x.give.a.ls.length a.c3, .int .i64 a.x.give.a.ex, .bool a.x.wa, .slice a.D a.x.ds.length a.dc, .bool a.x.eh, .int .i64 a.x.e1, .int .i64 a.x.e2, .slice a.L a.x.ls.length a.lc] (0, 0) _ k1.row Try.underlying31 rfl (by kernel_rfl) ?_)
      refine hw.mono ?_
      rintro en w4 ⟨hb, ⟨hno, rfl⟩ | ⟨hoa, va, rfl, hova⟩⟩
      · replace gB := Lib.hid (gB.out.trans (hb.mono gB.out.size))
        have k2 := kb.out.below hb kb.out.lt
        have hw2 := write_any b hsb lb hkb w4 (rb.below gB.out gB.out.size)
        unfold aggL at hw2
        clear hw k1 hb hcv hno
        go_wp2_with (refine wpList_load_row rfl 31 _ rfl (w.heap.size + 1) rfl 31 #[.int .u8 b.x.kd, .int .i64 b.x.fr, .int .i64 b.x.tt, .int .i64 b.x.ep, .int .i64 b.x.nu, .int .i64 b.x.ab, .bool b.x.give.s.neg, .slice b.X0 b.x.give.s.ls.length b.c0, .int .i64 b.x.give.s.ex, .bool b.x.give.w.neg, .slice b.X1 b.x.give.w.ls.length b.c1, .int .i64 b.x.give.w.ex, .bool b.x.give.c.neg, .slice b.X2 b.x.give.c.ls.length b.c2, .int .i64 b.x.give.c.ex, .bool b.x.give.a.neg, .slice b.X3 b.x.give.a.ls.length b.c3, .int .i64 b.x.give.a.ex, .bool b.x.wa, .slice b.D b.x.ds.length b.dc, .bool b.x.eh, .int .i64 b.x.e1, .int .i64 b.x.e2, .slice b.L b.x.ls.length b.lc] (0, 0) _ k2.row Try.underlying31 rfl (by kernel_rfl) ?_)
        refine hw2.mono ?_
        rintro en w5 ⟨hb, ⟨_, rfl⟩ | ⟨_, vb, rfl, _⟩⟩
        all_goals
          replace gB := Lib.hid (gB.out.trans (hb.mono gB.out.size))
          clear hb hw2 k2
          go_wp2
          go_ret
          exact ⟨rfl, gB.out⟩
      · replace ka := Lib.hid (ka.out.below hb ka.out.lt)
        replace kb := Lib.hid (kb.out.below hb kb.out.lt)
        replace gB := Lib.hid (gB.out.trans (hb.mono gB.out.size))
        have cva := Lib.hid (hcv va w4 hova hoa)
        clear hb hw k1 hova hcv
        have hw2 := write_any b hsb lb hkb w4 (rb.below gB.out gB.out.size)
        unfold aggL at hw2
        have k1 := kb.out
        go_wp2_with (refine wpList_load_row rfl 31 _ rfl (w.heap.size + 1) rfl 31 #[.int .u8 b.x.kd, .int .i64 b.x.fr, .int .i64 b.x.tt, .int .i64 b.x.ep, .int .i64 b.x.nu, .int .i64 b.x.ab, .bool b.x.give.s.neg, .slice b.X0 b.x.give.s.ls.length b.c0, .int .i64 b.x.give.s.ex, .bool b.x.give.w.neg, .slice b.X1 b.x.give.w.ls.length b.c1, .int .i64 b.x.give.w.ex, .bool b.x.give.c.neg, .slice b.X2 b.x.give.c.ls.length b.c2, .int .i64 b.x.give.c.ex, .bool b.x.give.a.neg, .slice b.X3 b.x.give.a.ls.length b.c3, .int .i64 b.x.give.a.ex, .bool b.x.wa, .slice b.D b.x.ds.length b.dc, .bool b.x.eh, .int .i64 b.x.e1, .int .i64 b.x.e2, .slice b.L b.x.ls.length b.lc] (0, 0) _ k1.row Try.underlying31 rfl (by kernel_rfl) ?_)
        refine hw2.mono ?_
        rintro en w5 ⟨hb, ⟨_, rfl⟩ | ⟨hob, vb, rfl, hovb⟩⟩
        · replace gB := Lib.hid (gB.out.trans (hb.mono gB.out.size))
          clear hb hw2 k1 hoa
          go_wp2
          go_ret
          exact ⟨rfl, gB.out⟩
        · replace ka := Lib.hid (ka.out.below hb ka.out.lt)
          replace kb := Lib.hid (kb.out.below hb kb.out.lt)
          replace gB := Lib.hid (gB.out.trans (hb.mono gB.out.size))
          have cvb := Lib.hid (strV (framed_lt (by omega) (by rw [byP_len]; have := conP_total hob; omega) (byP_lt _)) hovb)
          have hst : ((strOf (framed a.x.kd.toNat (byP a.x))).toList == (strOf (framed b.x.kd.toNat (byP b.x))).toList) = decide (a.x = b.x) := by
            rw [strOf_inj (framed_lt (by omega) (by rw [byP_len]; have := conP_total hoa; omega) (byP_lt _)) (framed_lt (by omega) (by rw [byP_len]; have := conP_total hob; omega) (byP_lt _))]
            by_cases e : a.x = b.x
            · rw [e]; simp
            · rw [decide_eq_false e, decide_eq_false_iff_not]
              intro h
              obtain ⟨h1, h2⟩ := framed_inj h
              exact e (conP_inj hoa hob la lb (by omega) (byP_inj h2))
          obtain ⟨sa, hsa'⟩ : ∃ s, strOf (framed a.x.kd.toNat (byP a.x)) = s := ⟨_, rfl⟩
          obtain ⟨sb, hsb'⟩ : ∃ s, strOf (framed b.x.kd.toNat (byP b.x)) = s := ⟨_, rfl⟩
          rw [hsa', hsb'] at hst
          rw [hsa'] at cva
          rw [hsb'] at cvb
          obtain ⟨R, hR⟩ : ∃ R, decide (a.x = b.x) = R := ⟨_, rfl⟩
          rw [hR] at hst
          have fa : ∀ q : Bw w5.heap.size w5, (convert 34 9 va).run Try.prog q.w = .ok (.string sa) q.w := fun q => cva.out q.w (hb.trans (q.h.mono hb.size))
          have fb : ∀ q : Bw w5.heap.size w5, (convert 34 9 vb).run Try.prog q.w = .ok (.string sb) q.w := fun q => cvb.out q.w q.h
          have hs5 := gB.out.size
          have fs : ∀ q : Bw w5.heap.size w5, Calls Try.prog 11 #[aggL a, aggL b] q.w fun en w' => en = .returned (.bool R) ∧ ∃ q' : Bw w5.heap.size w5, w' = q'.w := fun q => Calls.bw (mlsame_any a b hsa hsb q.w (ra.below (gB.out.trans (q.h.mono hs5)) (Nat.le_trans hs5 q.h.size)) (rb.below (gB.out.trans (q.h.mono hs5)) (Nat.le_trans hs5 q.h.size)) R hR) (Nat.le_refl _)
          unfold aggL at fs
          have r1 : ∀ q : Bw w5.heap.size w5, q.w.rangeAt w.heap.size 0 [.int .u8 a.x.kd, .int .i64 a.x.fr, .int .i64 a.x.tt, .int .i64 a.x.ep, .int .i64 a.x.nu, .int .i64 a.x.ab, .bool a.x.give.s.neg, .slice a.X0 a.x.give.s.ls.length a.c0, .int .i64 a.x.give.s.ex, .bool a.x.give.w.neg, .slice a.X1 a.x.give.w.ls.length a.c1, .int .i64 a.x.give.w.ex, .bool a.x.give.c.neg, .slice a.X2 a.x.give.c.ls.length a.c2, .int .i64 a.x.give.c.ex, .bool a.x.give.a.neg, .slice a.X3 a.x.give.a.ls.length a.c3, .int .i64 a.x.give.a.ex, .bool a.x.wa, .slice a.D a.x.ds.length a.dc, .bool a.x.eh, .int .i64 a.x.e1, .int .i64 a.x.e2, .slice a.L a.x.ls.length a.lc] := fun q => (ka.out.below q.h ka.out.lt).range 0 _ rfl
          have r2 : ∀ q : Bw w5.heap.size w5, q.w.rangeAt (w.heap.size + 1) 0 [.int .u8 b.x.kd, .int .i64 b.x.fr, .int .i64 b.x.tt, .int .i64 b.x.ep, .int .i64 b.x.nu, .int .i64 b.x.ab, .bool b.x.give.s.neg, .slice b.X0 b.x.give.s.ls.length b.c0, .int .i64 b.x.give.s.ex, .bool b.x.give.w.neg, .slice b.X1 b.x.give.w.ls.length b.c1, .int .i64 b.x.give.w.ex, .bool b.x.give.c.neg, .slice b.X2 b.x.give.c.ls.length b.c2, .int .i64 b.x.give.c.ex, .bool b.x.give.a.neg, .slice b.X3 b.x.give.a.ls.length b.c3, .int .i64 b.x.give.a.ex, .bool b.x.wa, .slice b.D b.x.ds.length b.dc, .bool b.x.eh, .int .i64 b.x.e1, .int .i64 b.x.e2, .slice b.L b.x.ls.length b.lc] := fun q => (kb.out.below q.h kb.out.lt).range 0 _ rfl
          clear hb hw2 k1 hoa hob hovb cva cvb hsa' hsb' hR hsa hsb hka hkb ra rb la lb
          go_upto_region 8 with (fail)
          refine wp_region_wq w5.heap.size w5 (Below.refl _ _) (by kernel_rfl) (by kernel_rfl) ?_
          repeat (first | (refine WQ.yes (by rfl) (fun K hK => ?_); refine quiet_load_mid 31 _ rfl w.heap.size 0 rfl [.int .u8 a.x.kd, .int .i64 a.x.fr, .int .i64 a.x.tt, .int .i64 a.x.ep, .int .i64 a.x.nu, .int .i64 a.x.ab, .bool a.x.give.s.neg, .slice a.X0 a.x.give.s.ls.length a.c0, .int .i64 a.x.give.s.ex, .bool a.x.give.w.neg, .slice a.X1 a.x.give.w.ls.length a.c1, .int .i64 a.x.give.w.ex, .bool a.x.give.c.neg, .slice a.X2 a.x.give.c.ls.length a.c2, .int .i64 a.x.give.c.ex, .bool a.x.give.a.neg, .slice a.X3 a.x.give.a.ls.length a.c3, .int .i64 a.x.give.a.ex, .bool a.x.wa, .slice a.D a.x.ds.length a.dc, .bool a.x.eh, .int .i64 a.x.e1, .int .i64 a.x.e2, .slice a.L a.x.ls.length a.lc] _ r1 Try.underlying31 rfl (by kernel_rfl) (hK _ ?_); clear hK K; simp only [Act.put, List.setIfInBounds_toArray, List.set_cons_zero, List.set_cons_succ]) | (refine WQ.yes (by rfl) (fun K hK => ?_); refine quiet_load_mid 31 _ rfl (w.heap.size + 1) 0 rfl [.int .u8 b.x.kd, .int .i64 b.x.fr, .int .i64 b.x.tt, .int .i64 b.x.ep, .int .i64 b.x.nu, .int .i64 b.x.ab, .bool b.x.give.s.neg, .slice b.X0 b.x.give.s.ls.length b.c0, .int .i64 b.x.give.s.ex, .bool b.x.give.w.neg, .slice b.X1 b.x.give.w.ls.length b.c1, .int .i64 b.x.give.w.ex, .bool b.x.give.c.neg, .slice b.X2 b.x.give.c.ls.length b.c2, .int .i64 b.x.give.c.ex, .bool b.x.give.a.neg, .slice b.X3 b.x.give.a.ls.length b.c3, .int .i64 b.x.give.a.ex, .bool b.x.wa, .slice b.D b.x.ds.length b.dc, .bool b.x.eh, .int .i64 b.x.e1, .int .i64 b.x.e2, .slice b.L b.x.ls.length b.lc] _ r2 Try.underlying31 rfl (by kernel_rfl) (hK _ ?_); clear hK K; simp only [Act.put, List.setIfInBounds_toArray, List.set_cons_zero, List.set_cons_succ]) | (refine WQ.yes (by rfl) (fun K hK => ?_); go_simp; first | (refine hK _ ?_; clear hK K) | (apply Exists.intro; refine ⟨fun _ => ?_, hK _ ?_⟩; (exact fs _); clear hK K)) | (refine WQ.no (by rfl) ?_; (try simp only [Act.put, List.setIfInBounds_toArray, List.set_cons_zero, List.set_cons_succ])))
          refine WQ.nil ?_
          intro pq
          have gF := Lib.hid (gB.out.trans (pq.h.mono hs5))
          clear fa fb fs r1 r2 ka kb gB
          go_wp2
          go_ret
          exact ⟨by simp, gF.out⟩
end Go.Proofs.Ytjmhefkmpfkpbaa
