/- Flight's Door: the walk of FlightSums -/
import Derived.Test.YtdmjdpaehnhdoaaDoorGR
import Derived.Test.YtdmjdpaehnhdoaaDoorGKJ
import Derived.Test.YtdmjdpaehnhdoaaDoorGLM
import Derived.Test.YtdmjdpaehnhdoaaDoorGN
import Derived.Test.YtdmjdpaehnhdoaaDoorGQ
import Derived.Test.YtdmjdpaehnhdoaaDoorLG
import Derived.Test.YtdmjdpaehnhdoaaDoorLF
import Derived.Test.YtdmjdpaehnhdoaaDoorLEE
import Derived.Test.YtdmjdpaehnhdoaaDoorLH
import Derived.Test.YtdmjdpaehnhdoaaDoorLI
import Derived.Test.YtdmjdpaehnhdoaaDoorLKM
import Derived.Test.YtdmjdpaehnhdoaaDoorLQU
namespace Go.Proofs.YtdmjdpaehnhdoaaDoor
open Go.ChangeShapes Go.WideShapes Go.ChangeAt Go.RowKit
set_option linter.unusedSimpArgs false
set_option linter.unusedVariables false
open Go.Shelf
set_option maxRecDepth 100000
theorem fine_sm {l : List En} (h : fine l) : ∀ x ∈ l, smM x.give := fun x hx => by
  have := h x hx
  unfold smM
  omega
def MidS (l l2 : List En) (A A2 : Option Addr) (n n2 c c2 : Nat) (N : Int) (b : Nat) (o : MO) (B : Nat) (w2 : World) (a : Act) (wx : World) : Prop :=
  ∃ (Ao : Option Addr) (co : Nat) (oW : List EO) (g : Nat) (r : MO), oW.map (·.x) = l ∧ RowE wx B Ao n co oW ∧ r.x = o.x ∧ OwL wx B r ∧ Blk wx g 32 (mA r) ∧ Below B w2 wx ∧ Sx a 115 [(0, gv true (.slice A n c)), (1, gv true (.slice A2 n2 c2)), (2, gv true (.int .i64 N)), (7, gv true (.pointer (some ⟨b, 0, none⟩))), (9, gv true (.slice Ao n co)), (10, gv true (.pointer (some ⟨g, 0, none⟩)))]
theorem rowE_base {w : World} {B b n c : Nat} {A : Option Addr} {os : List EO} (h : RowE w B A n c os) (hb : b ≤ B) : RowE w b A n c os := ⟨own_base_le h.1 hb, fun o ho => (h.2 o ho).map (fun h => h.base_le hb)⟩
theorem RowE.setRow {w : World} {B g n c : Nat} {A : Option Addr} {os : List EO} (h : RowE w B A n c os) (hg : g < B) (ds : Array Value) : RowE (w.setRow g ds) B A n c os := ⟨own_row h.1 hg ds, fun o ho => (h.2 o ho).map (fun h => ⟨h.1, fun h0 => by obtain ⟨g', cur, hA, hg', hh, ht⟩ := h.2 h0; exact ⟨g', cur, hA, hg', Blk.setRow_far hh (by omega) ds, ht⟩⟩)⟩
theorem OwL.base_le {w : World} {B b : Nat} {r : MO} (h : OwL w B r) (hb : b ≤ B) : OwL w b r := ⟨h.1.base_le hb, own_base_le h.2.1 hb, own_base_le h.2.2 hb⟩
abbrev z24 : Array Value := #[.int .u8 0, .int .i64 0, .int .i64 0, .int .i64 0, .int .i64 0, .int .i64 0, .bool false, .slice none 0 0, .int .i64 0, .bool false, .slice none 0 0, .int .i64 0, .bool false, .slice none 0 0, .int .i64 0, .bool false, .slice none 0 0, .int .i64 0, .bool false, .slice none 0 0, .bool false, .int .i64 0, .int .i64 0, .slice none 0 0]
theorem run_store_row {P : Program} {w : World} {o : Oper} {ev : Operand → Value} (ty : TypeId) (x y : Operand) (ho : o.op = .store ty x y) (g : Nat) (hx : ev x = .pointer (some ⟨g, 0, none⟩)) (cs : Array Value) (hy : ev y = .agg cs) (t : TypeId) (old : Array Value) (hb : Blk w g t old)
    (hi : (P.info? ty).map (·.size) = some cs.size) (hold : old.size = cs.size) (h1 : cs.all (·.oneCell') = true) : (execOp ev o).run P w = .ok .skip (w.setRow g cs) := by
  unfold execOp
  simp only [ho, hx, hy, Instr.storeAt, Instr.sureAddr, Sem.run_bind, Sem.run_pure, Result.andThen_ok, run_storeVar_row w g t ty old cs hb.row hi hold h1]
abbrev lA (r : MB) : Array Value := #[.int .i64 0, .int .i64 0, .int .i64 0, .bool r.m.s.neg, .slice r.X0 r.m.s.ls.length r.c0, .int .i64 r.m.s.ex, .bool r.m.w.neg, .slice r.X1 r.m.w.ls.length r.c1, .int .i64 r.m.w.ex, .bool r.m.c.neg, .slice r.X2 r.m.c.ls.length r.c2, .int .i64 r.m.c.ex, .bool r.m.a.neg, .slice r.X3 r.m.a.ls.length r.c3, .int .i64 r.m.a.ex]
theorem carL_sm {m : Ml} (h : smL m) (E : Int) : smM (carL m E) := by
  unfold carL
  split
  · exact h.1
  · exact zM_sm
set_option maxHeartbeats 32000000 in
theorem FlightSums.walk (A A2 : Option Addr) (n n2 c c2 : Nat) (l l2 : List En) (hn : n ≤ maxLen) (hn2 : n2 ≤ maxLen) (N : Int) (o : MO) (w : World) (h1 : Ens w w.heap.size A n l) (h2 : Ens w w.heap.size A2 n2 l2) (hlt : ∀ x ∈ l, ltM4 x.give) (hr : rdL w w.heap.size o) (hT : Tab w) : Calls Tryd.prog 3 #[.slice A n c, .slice A2 n2 c2, .int .i64 N, aggL o] w fun en w' => en = .returned (.bool true) ∧ Below w.heap.size w w' := by
  obtain ⟨V, hV⟩ : ∃ V, V = w.alloc (.cells (mA o) 32) := ⟨_, rfl⟩
  have hB : Below w.heap.size w V := by rw [hV]; exact (Below.refl _ _).alloc (Nat.le_refl _) _
  have kb : Blk V w.heap.size 32 (mA o) := by rw [hV]; exact Blk.new w _ _
  change Calls Tryd.prog 3 #[.slice A n c, .slice A2 n2 c2, .int .i64 N, .agg (mA o)] w _
  go_enter Tryd.func3, Tryd.ntmps3
  go_upto_region 1 with (fail)
  rename_i Q0 K1 k1 K2 k2
  rw [← hV]
  clear hV
  refine wp_region_lit ?_
  refine wpList_sx (l := [(0, gv true (.slice A n c)), (1, gv true (.slice A2 n2 c2)), (2, gv true (.int .i64 N)), (7, gv true (.pointer (some ⟨w.heap.size, 0, none⟩))), (8, gv true (.bool false))]) 115 rfl rfl (allC rfl (allC rfl (allC rfl (allC rfl (allC rfl allN))))) ?_
  intro a S
  refine sxMv S (wantN rfl _) rfl (fun _ => rfl) ?_; intro a S
  refine sxCE 21 S 6 (fun G => G = false → l.length ≤ 20 ∧ fine l) (wantN rfl _) rfl (fun _ => rfl) (fun ev ef e => by go_simp; try rfl) (Calls.mono (lgreat_any A n c l hn V (Recs.more (Recs.below h1 hB) hB.size)) (fun _ _ h => h)) ?_
  intro a v1 G1 hb r1 S
  replace kb := kb.below hb kb.lt
  replace hB := hB.trans (hb.mono hB.size)
  clear hb
  refine sxMv S (wantN rfl _) rfl (fun _ => rfl) ?_; intro a S
  refine sxMv S (wG S rfl rfl (by decide) rfl) rfl (fun _ => rfl) ?_; intro a S
  refine sxCE 24 S 6 (fun G => G = false → l2.length ≤ 20 ∧ fine l2) (wG S rfl rfl (by decide) rfl) rfl id (fun ev ef e => by go_simp; try rfl) (Calls.mono (lgreat_any A2 n2 c2 l2 hn2 v1 (Recs.more (Recs.below h2 hB) hB.size)) (fun _ _ h => h)) ?_
  intro a v2 G2 hb r2 S
  replace kb := kb.below hb kb.lt
  replace hB := hB.trans (hb.mono hB.size)
  clear hb
  refine sxOr S (wantN rfl _) rfl rfl (fun _ => rfl) (fun _ h => by rw [h]; rfl) ?_; intro a S
  refine sxMv S (wantN rfl _) rfl (fun _ => rfl) ?_; intro a S
  refine sx1 7 S (.agg (mA o)) (wG S rfl rfl (by decide) rfl) rfl (fun _ => rfl) (fun ev ec e => run_load_row 32 _ rfl _ e (mA o) 32 _ kb Tryd.underlying32 rfl (by kernel_rfl)) ?_; intro a S
  obtain ⟨q, hq⟩ : ∃ q, grM o.x.give.s.ls.length o.x.give.s.ex o.x.give.w.ls.length o.x.give.w.ex o.x.give.c.ls.length o.x.give.c.ex o.x.give.a.ls.length o.x.give.a.ex = q := ⟨_, rfl⟩
  obtain ⟨G3, hG3⟩ : ∃ G3, grL o q = G3 := ⟨_, rfl⟩
  refine sxC 28 S 7 (.bool G3) (wG S rfl rfl (by decide) rfl) rfl id (fun ev ef e => by go_simp; try rfl) (rlgreat_any o q v2 (fun w' _ => mgreat_any _ _ _ _ _ _ _ _ _ _ _ _ _ _ _ _ _ _ _ _ q hq w') G3 hG3) ?_
  intro a w2 hb S
  replace kb := kb.below hb kb.lt
  replace hB := hB.trans (hb.mono hB.size)
  clear hb
  refine sxOr S (wantN rfl _) rfl rfl (fun _ => rfl) (fun _ h => by rw [h]; rfl) ?_; intro a S
  refine wpList_nil ?_
  refine k2 _ _ ?_
  refine wp_cond_split (S.fx _ _ rfl) (fun ht => ?_) (fun hf => ?_)
  · refine wp_seq (wp_region_list ?_)
    refine sx0 S (.bool true) (wantN rfl _) rfl (by decide) (fun _ => by go_simp; try rfl) ?_
    intro a S
    refine wpList_nil ?_
    show Code.wp _ _ _ _ _
    refine wp_ret ?_
    show Q0 .ret a _
    refine bodyPost_ret (v := .bool true) ?_ S.df ⟨rfl, hB⟩
    exact (results_tmp rfl _ _ _).trans (by rw [show a.tmps.getD 8 undef = _ from S.fx 8 _ rfl]; rfl)
  obtain ⟨⟨g1, g2⟩, g3⟩ : (G1 = false ∧ G2 = false) ∧ G3 = false := by simpa using hf
  obtain ⟨hl20, hfl⟩ := r1 rfl g1
  obtain ⟨hl22, hfl2⟩ := r2 (by rw [g1]; rfl) g2
  clear r1 r2 hf
  have gs1 := fine_sm hfl
  have gs2 := fine_sm hfl2
  have hsm : smL o.x := by
    rw [g3] at hG3
    unfold grL at hG3
    simp only [Bool.or_eq_false_iff, decide_eq_false_iff_not] at hG3
    obtain ⟨⟨hq0, hd⟩, hl⟩ := hG3
    rw [hq0] at hq
    have := grM_no hq
    unfold smL smM
    omega
  have hn10 : n ≤ 10000 := by have := ens_len h1; omega
  have hn1k : n ≤ 1000 := by have := ens_len h1; omega
  have hn20 : n2 ≤ 10000 := by have := ens_len h2; omega
  clear hG3 hq g1 g2 g3 hfl hfl2
  replace S : Sx a 115 [(0, gv true (.slice A n c)), (1, gv true (.slice A2 n2 c2)), (2, gv true (.int .i64 N)), (7, gv true (.pointer (some ⟨w.heap.size, 0, none⟩)))] := S.sub (allC rfl (allC rfl (allC rfl (allC rfl allN))))
  refine wp_skip ?_
  refine k1 _ _ ?_
  refine wp_seq_k (fun K hK => ?_)
  refine (fun (key : ∀ a wx, MidS l l2 A A2 n n2 c c2 N w.heap.size o w2.heap.size w2 a wx → K a wx) => ?_) (fun a wx hm => hK a wx ?_)
  have hT13 : ∀ w', Below w2.heap.size w2 w' → Calls Tryd.prog 8 #[.slice A n c] w' fun en w'' => ∃ u, en = .returned u ∧ ∃ Ao co oW, u = .slice Ao n co ∧ oW.map (·.x) = l ∧ RowE w'' w'.heap.size Ao n co oW ∧ Below w'.heap.size w' w'' := fun w' hb => by
    refine (retwin_any A n c l hn10 gs1 w' (Recs.more (Recs.below h1 (hB.trans (hb.mono hB.size))) (Nat.le_trans hB.size hb.size))).mono ?_
    rintro en w'' ⟨Ao, co, rfl, hT⟩
    obtain ⟨os, h1, h2⟩ := accE_row hT.2.2.2.2
    exact ⟨_, rfl, Ao, co, os, rfl, h1, h2, hT.2.2.2.1⟩
  have hT10 : ∀ w', Below w2.heap.size w2 w' → Calls Tryd.prog 9 #[.agg (mA o)] w' fun en w'' => ∃ u, en = .returned u ∧ ∃ r : MO, u = aggL r ∧ r.x = o.x ∧ OwL w'' w'.heap.size r ∧ Below w'.heap.size w' w'' := fun w' hb => by
    refine (rltwin_any o hsm w' (hr.below (hB.trans (hb.mono hB.size)) (Nat.le_trans hB.size hb.size))).mono ?_
    rintro en w'' ⟨r, h1, rfl, h2, h3⟩
    exact ⟨_, rfl, r, rfl, h1, h2, h3⟩
  · refine wp_region_noPanic ?_
    refine wp_region_held_drew (S := fun w' => Below w2.heap.size w2 w') (by kernel_rfl) (Below.drew (Below.refl _ _)) (fun hS0 => ?_)
    refine hx1 0 S (.slice A n c) (i := 0) rfl rfl (fun w' hw ev ec e => by go_simp; try rfl) hS0 ?_ (by kernel_rfl) (by kernel_rfl) (by kernel_rfl)
    intro a S
    refine hx1 7 S (.agg (mA o)) (i := 2) rfl rfl (fun w' hw ev ec e => run_load_row 32 _ rfl _ e (mA o) 32 _ (kb.below hw kb.lt) Tryd.underlying32 rfl (by kernel_rfl)) hS0 ?_ (by kernel_rfl) (by kernel_rfl) (by kernel_rfl)
    intro a S
    refine wpAnyH_ready (rs := [1, 4]) (by kernel_rfl) (by simp) (AllReadyH.cons rfl ?_ (AllReadyH.cons rfl ?_ AllReadyH.nil))
    · refine hxK 31 S 8 (fun u w' => ∃ Ao co oW, u = .slice Ao n co ∧ oW.map (·.x) = l ∧ RowE w' w2.drew.heap.size Ao n co oW ∧ Below w2.drew.heap.size w2.drew w') rfl (fun ev ef e => by go_simp; try rfl) (hT13 w2.drew hS0) (fun u w' ⟨_, _, _, _, _, _, hb⟩ => Below.trans hS0 (hb.mono hS0.size)) ?_
      rintro a wT u ⟨Ao, co, oW, rfl, eW, rW, hbT⟩ S
      have hST := Below.trans hS0 (hbT.mono hS0.size)
      have zT := hbT.size
      refine wpAnyH_ready (rs := [3, 4]) (by kernel_rfl) (by simp) (AllReadyH.cons rfl ?_ (AllReadyH.cons rfl ?_ AllReadyH.nil))
      · refine hxK 33 S 9 (fun u w' => ∃ r : MO, u = aggL r ∧ r.x = o.x ∧ OwL w' wT.heap.size r ∧ Below wT.heap.size wT w') rfl (fun ev ef e => by go_simp; try rfl) (hT10 wT hST) (fun u w' ⟨_, _, _, _, hb⟩ => Below.trans hST (hb.mono hST.size)) ?_
        rintro a wM u ⟨r, rfl, er, rM, hbM⟩ S
        have hSM := Below.trans hST (hbM.mono hST.size)
        have zM := hbM.size
        refine wpAnyH_ready (rs := [4]) (by kernel_rfl) (by simp) (AllReadyH.cons rfl ?_ AllReadyH.nil)
        refine hxW S (.pointer (some ⟨wM.heap.size, 0, none⟩)) (wM.alloc (.cells z24 32)) (by go_simp; try rfl) (hSM.alloc hSM.size _) ?_
        intro a S
        have hSA := hSM.alloc hSM.size (.cells z24 32)
        have kz := Blk.new wM 32 z24
        have zA' : wM.heap.size < (wM.alloc (.cells z24 32)).heap.size := kz.lt
        have hbA := (Below.refl wM.heap.size wM).alloc (Nat.le_refl _) (.cells z24 32)
        refine hx1 32 S (.slice Ao n co) (i := 5) rfl rfl (fun w' hw ev ec e => by go_simp; try rfl) hSA ?_ (by kernel_rfl) (by kernel_rfl) (by kernel_rfl)
        intro a S
        refine wpAnyH_ready (rs := [6]) (by kernel_rfl) (by simp) (AllReadyH.cons rfl ?_ AllReadyH.nil)
        refine hxS (x := 10) (y := 34) S ((wM.alloc (.cells z24 32)).setRow wM.heap.size (mA r)) rfl rfl (fun ev e e2 => run_store_row 32 _ _ rfl _ e (mA r) e2 32 z24 kz (by kernel_rfl) rfl (by simp [Value.oneCell'])) (below_setRow (g := wM.heap.size) hSA (by have := hS0.size; have : w2.drew.heap.size = w2.heap.size := rfl; omega) (mA r)) ?_
        intro a S
        refine wpAnyH_done (by kernel_rfl) ?_ _
        refine NoPanic.normal ?_
        refine key _ _ ?_
        have hd2 : w2.drew.heap.size = w2.heap.size := rfl
        have hb1 := below_setRow (g := wM.heap.size) hbA (Nat.le_refl _) (mA r)
        exact ⟨Ao, co, oW, wM.heap.size, r, eW, rowE_base ((rW.below hbM).below hb1) (by omega), er, OwL.base_le (rM.below hb1) (by omega), kz.setRow (mA r), below_setRow (g := wM.heap.size) hSA (by omega) (mA r), S.sub (allC rfl (allC rfl (allC rfl (allC rfl (allC rfl (allC rfl allN))))))⟩
      · refine hxW S (.pointer (some ⟨wT.heap.size, 0, none⟩)) (wT.alloc (.cells z24 32)) (by go_simp; try rfl) (hST.alloc hST.size _) ?_
        intro a S
        have hSA := hST.alloc hST.size (.cells z24 32)
        have kz := Blk.new wT 32 z24
        have zA' : wT.heap.size < (wT.alloc (.cells z24 32)).heap.size := kz.lt
        have hbA := (Below.refl wT.heap.size wT).alloc (Nat.le_refl _) (.cells z24 32)
        refine wpAnyH_ready (rs := [3]) (by kernel_rfl) (by simp) (AllReadyH.cons rfl ?_ AllReadyH.nil)
        refine hxK 33 S 9 (fun u w' => ∃ r : MO, u = aggL r ∧ r.x = o.x ∧ OwL w' (wT.alloc (.cells z24 32)).heap.size r ∧ Below (wT.alloc (.cells z24 32)).heap.size (wT.alloc (.cells z24 32)) w') rfl (fun ev ef e => by go_simp; try rfl) (hT10 (wT.alloc (.cells z24 32)) hSA) (fun u w' ⟨_, _, _, _, hb⟩ => Below.trans hSA (hb.mono hSA.size)) ?_
        rintro a wM u ⟨r, rfl, er, rM, hbM⟩ S
        have hSM := Below.trans hSA (hbM.mono hSA.size)
        have zM := hbM.size
        replace kz := kz.below hbM kz.lt
        refine hx1 32 S (.slice Ao n co) (i := 5) rfl rfl (fun w' hw ev ec e => by go_simp; try rfl) hSM ?_ (by kernel_rfl) (by kernel_rfl) (by kernel_rfl)
        intro a S
        refine wpAnyH_ready (rs := [6]) (by kernel_rfl) (by simp) (AllReadyH.cons rfl ?_ AllReadyH.nil)
        refine hxS (x := 10) (y := 34) S (wM.setRow wT.heap.size (mA r)) rfl rfl (fun ev e e2 => run_store_row 32 _ _ rfl _ e (mA r) e2 32 z24 kz (by kernel_rfl) rfl (by simp [Value.oneCell'])) (below_setRow (g := wT.heap.size) hSM (by have := hS0.size; have : w2.drew.heap.size = w2.heap.size := rfl; omega) (mA r)) ?_
        intro a S
        refine wpAnyH_done (by kernel_rfl) ?_ _
        refine NoPanic.normal ?_
        refine key _ _ ?_
        have hd2 : w2.drew.heap.size = w2.heap.size := rfl
        have hb1 := below_setRow (g := wT.heap.size) (hbA.trans (hbM.mono hbA.size)) (Nat.le_refl _) (mA r)
        exact ⟨Ao, co, oW, wT.heap.size, r, eW, rowE_base (rW.below hb1) (by omega), er, OwL.base_le (rM.setRow (by omega) (mA r)) (by omega), kz.setRow (mA r), below_setRow (g := wT.heap.size) hSM (by omega) (mA r), S.sub (allC rfl (allC rfl (allC rfl (allC rfl (allC rfl (allC rfl allN))))))⟩
    · refine hxW S (.pointer (some ⟨w2.drew.heap.size, 0, none⟩)) (w2.drew.alloc (.cells z24 32)) (by go_simp; try rfl) (hS0.alloc hS0.size _) ?_
      intro a S
      have hSA := hS0.alloc hS0.size (.cells z24 32)
      have kz := Blk.new w2.drew 32 z24
      have zA' : w2.drew.heap.size < (w2.drew.alloc (.cells z24 32)).heap.size := kz.lt
      have hbA := (Below.refl w2.drew.heap.size w2.drew).alloc (Nat.le_refl _) (.cells z24 32)
      refine wpAnyH_ready (rs := [1]) (by kernel_rfl) (by simp) (AllReadyH.cons rfl ?_ AllReadyH.nil)
      refine hxK 31 S 8 (fun u w' => ∃ Ao co oW, u = .slice Ao n co ∧ oW.map (·.x) = l ∧ RowE w' (w2.drew.alloc (.cells z24 32)).heap.size Ao n co oW ∧ Below (w2.drew.alloc (.cells z24 32)).heap.size (w2.drew.alloc (.cells z24 32)) w') rfl (fun ev ef e => by go_simp; try rfl) (hT13 (w2.drew.alloc (.cells z24 32)) hSA) (fun u w' ⟨_, _, _, _, _, _, hb⟩ => Below.trans hSA (hb.mono hSA.size)) ?_
      rintro a wT u ⟨Ao, co, oW, rfl, eW, rW, hbT⟩ S
      have hST := Below.trans hSA (hbT.mono hSA.size)
      have zT := hbT.size
      replace kz := kz.below hbT kz.lt
      refine wpAnyH_ready (rs := [3]) (by kernel_rfl) (by simp) (AllReadyH.cons rfl ?_ AllReadyH.nil)
      refine hxK 33 S 9 (fun u w' => ∃ r : MO, u = aggL r ∧ r.x = o.x ∧ OwL w' wT.heap.size r ∧ Below wT.heap.size wT w') rfl (fun ev ef e => by go_simp; try rfl) (hT10 wT hST) (fun u w' ⟨_, _, _, _, hb⟩ => Below.trans hST (hb.mono hST.size)) ?_
      rintro a wM u ⟨r, rfl, er, rM, hbM⟩ S
      have hSM := Below.trans hST (hbM.mono hST.size)
      have zM := hbM.size
      replace kz := kz.below hbM kz.lt
      refine hx1 32 S (.slice Ao n co) (i := 5) rfl rfl (fun w' hw ev ec e => by go_simp; try rfl) hSM ?_ (by kernel_rfl) (by kernel_rfl) (by kernel_rfl)
      intro a S
      refine wpAnyH_ready (rs := [6]) (by kernel_rfl) (by simp) (AllReadyH.cons rfl ?_ AllReadyH.nil)
      refine hxS (x := 10) (y := 34) S (wM.setRow w2.drew.heap.size (mA r)) rfl rfl (fun ev e e2 => run_store_row 32 _ _ rfl _ e (mA r) e2 32 z24 kz (by kernel_rfl) rfl (by simp [Value.oneCell'])) (below_setRow (g := w2.drew.heap.size) hSM (by have := hS0.size; have : w2.drew.heap.size = w2.heap.size := rfl; omega) (mA r)) ?_
      intro a S
      refine wpAnyH_done (by kernel_rfl) ?_ _
      refine NoPanic.normal ?_
      refine key _ _ ?_
      have hd2 : w2.drew.heap.size = w2.heap.size := rfl
      exact ⟨Ao, co, oW, w2.drew.heap.size, r, eW, rowE_base ((rW.below hbM).setRow (by omega) (mA r)) (by omega), er, OwL.base_le (rM.setRow (by omega) (mA r)) (by omega), kz.setRow (mA r), below_setRow (g := w2.drew.heap.size) hSM (by omega) (mA r), S.sub (allC rfl (allC rfl (allC rfl (allC rfl (allC rfl (allC rfl allN))))))⟩
  obtain ⟨Ao, co, oW, g, r, eW, rW, er, rM, kM, hbm, S⟩ := hm
  have hBx := hB.trans (hbm.mono hB.size)
  have kbx := kb.below hbm kb.lt
  have hW := rW.ens eW
  have hM := rM.rd
  have hsr : smL r.x := by rw [er]; exact hsm
  have g1 := Recs.more (Recs.below h1 hBx) hBx.size
  have g2 := Recs.more (Recs.below h2 hBx) hBx.size
  have gr' := hr.below hBx hBx.size
  have gT := hT.below hBx hT.2
  have gM := Below.refl wx.heap.size wx
  have hm8 : n ≤ 8300 := by have := ens_len h1; omega
  have lbx := kbx.lt
  have lM := kM.lt
  clear hB hbm kb rM h1 h2 hr hT
  refine wp_seq (wp_region_lit ?_)
  refine sxMv S (wantN rfl _) rfl (fun _ => rfl) ?_; intro a S
  refine sxMv S (wantN rfl _) rfl (fun _ => rfl) ?_; intro a S
  refine sxK2 36 37 S 10 (fun u w' => FSumP l N wx (.returned u) w') rfl rfl (fun ev ef e e2 => by go_simp; try rfl) ((fsum_any Ao n co l hn10 wx (Recs.more (Recs.below hW gM) gM.size) hlt N (gT.below gM gT.2)).mono (fun en w' h => by obtain ⟨E0, hE, r, h1, rfl, h2⟩ := h; exact ⟨_, rfl, E0, hE, r, h1, rfl, h2⟩)) ?_
  intro a v1 u ⟨Ea, hEa, ra, hra, hu, ua, hb⟩ S
  injection hu with hu
  subst hu
  have ja : ∀ g, hasB (eO ra) g → wx.heap.size ≤ g ∧ g < v1.heap.size := fun g hg => by obtain ⟨p1, _, p2⟩ := (eO_own ua).has hg; exact ⟨p1, p2.lt⟩
  replace kbx := kbx.below hb kbx.lt
  replace kM := kM.below hb kM.lt
  have zv1 := hb.size
  replace gM := gM.trans (hb.mono gM.size)
  refine sxMv S (wantN rfl _) rfl (fun _ => rfl) ?_; intro a S
  refine sx1 35 S (.agg (oA ra)) (wantN rfl _) rfl (fun _ => rfl) (fun ev ec e => by go_simp; try rfl) ?_; intro a S
  refine sx1 35 S (.int .i64 (lsE (fsA Ea N) (sumFl l N))) (wantN rfl _) rfl (fun _ => rfl) (fun ev ec e => by go_simp; try rfl) ?_; intro a S
  refine sxW S (.pointer (some ⟨v1.heap.size, 0, none⟩)) (v1.alloc (.cells zA 27)) (wantN rfl _) (by go_simp; try rfl) ?_; intro a S
  refine wpList_store_row rfl 27 (.tmp 11) (.tmp 39) rfl v1.heap.size (oA ra) (S.fx 11 _ rfl) (S.fx 39 _ rfl) 27 zA (Blk.new v1 27 zA).row (by kernel_rfl) rfl (by simp [Value.oneCell']) ?_
  replace S := S.none_ (v := undef)
  have kA := (Blk.new v1 27 zA).setRow (oA ra)
  have hb := below_setRow (g := v1.heap.size) ((Below.refl v1.heap.size v1).alloc (Nat.le_refl _) (.cells zA 27)) (Nat.le_refl _) (oA ra)
  obtain ⟨v3, hw⟩ : ∃ W, W = (v1.alloc (.cells zA 27)).setRow v1.heap.size (oA ra) := ⟨_, rfl⟩
  rw [← hw] at kA hb ⊢
  clear hw
  replace kbx := kbx.below hb kbx.lt
  replace kM := kM.below hb kM.lt
  replace ua := ua.below hb
  have zv3 := hb.size
  replace gM := gM.trans (hb.mono gM.size)
  refine sx1 40 S (.int .i64 (lsE (fsA Ea N) (sumFl l N))) (wantN rfl _) rfl (fun _ => rfl) (fun ev ec e => by go_simp; try rfl) ?_; intro a S
  refine wpList_nil ?_
  show Code.wp _ _ _ _ _
  refine wp_seq (wp_region_lit ?_)
  refine sxMv S (wantN rfl _) rfl (fun _ => rfl) ?_; intro a S
  refine sxMv S (wantN rfl _) rfl (fun _ => rfl) ?_; intro a S
  refine sxK2 42 43 S 11 (fun u w' => RSumP l N v3 (.returned u) w') rfl rfl (fun ev ef e e2 => by go_simp; try rfl) ((rsum13_any A n c l hm8 v3 (Recs.more (Recs.below g1 gM) gM.size) hlt N).mono (fun en w' h => by obtain ⟨E0, hE, r, h1, rfl, h2⟩ := h; exact ⟨_, rfl, E0, hE, r, h1, rfl, h2⟩)) ?_
  intro a v4 u ⟨Eb, hEb, rb, hrb, hu, ub, hb⟩ S
  injection hu with hu
  subst hu
  obtain rfl := chk_one hEa hEb
  clear hEb
  replace kbx := kbx.below hb kbx.lt
  replace kM := kM.below hb kM.lt
  replace ua := ua.below hb
  replace kA := kA.below hb kA.lt
  have zv4 := hb.size
  replace gM := gM.trans (hb.mono gM.size)
  refine sxMv S (wantN rfl _) rfl (fun _ => rfl) ?_; intro a S
  refine sx1 41 S (.agg (oA rb)) (wantN rfl _) rfl (fun _ => rfl) (fun ev ec e => by go_simp; try rfl) ?_; intro a S
  refine sx1 41 S (.int .i64 (lsE (fsA Ea N) (sumFl l N))) (wantN rfl _) rfl (fun _ => rfl) (fun ev ec e => by go_simp; try rfl) ?_; intro a S
  refine sxW S (.pointer (some ⟨v4.heap.size, 0, none⟩)) (v4.alloc (.cells zA 27)) (wantN rfl _) (by go_simp; try rfl) ?_; intro a S
  refine wpList_store_row rfl 27 (.tmp 13) (.tmp 45) rfl v4.heap.size (oA rb) (S.fx 13 _ rfl) (S.fx 45 _ rfl) 27 zA (Blk.new v4 27 zA).row (by kernel_rfl) rfl (by simp [Value.oneCell']) ?_
  replace S := S.none_ (v := undef)
  have kB := (Blk.new v4 27 zA).setRow (oA rb)
  have hb := below_setRow (g := v4.heap.size) ((Below.refl v4.heap.size v4).alloc (Nat.le_refl _) (.cells zA 27)) (Nat.le_refl _) (oA rb)
  obtain ⟨v6, hw⟩ : ∃ W, W = (v4.alloc (.cells zA 27)).setRow v4.heap.size (oA rb) := ⟨_, rfl⟩
  rw [← hw] at kB hb ⊢
  clear hw
  replace kbx := kbx.below hb kbx.lt
  replace kM := kM.below hb kM.lt
  replace ua := ua.below hb
  replace kA := kA.below hb kA.lt
  replace ub := ub.below hb
  have zv6 := hb.size
  replace gM := gM.trans (hb.mono gM.size)
  refine sx1 46 S (.int .i64 (lsE (fsA Ea N) (sumFl l N))) (wantN rfl _) rfl (fun _ => rfl) (fun ev ec e => by go_simp; try rfl) ?_; intro a S
  refine wpList_nil ?_
  show Code.wp _ _ _ _ _
  refine wp_seq (wp_region_lit ?_)
  refine sx1 10 S (.agg (mA r)) (wantN rfl _) rfl (fun _ => rfl) (fun ev ec e => run_load_row 32 _ rfl _ e (mA r) 32 _ kM Tryd.underlying32 rfl (by kernel_rfl)) ?_; intro a S
  refine sxK 48 S 12 (fun u w' => OfP r v6 (.returned u) w') rfl (fun ev ef e => by go_simp; try rfl) ((fof_any r hsr v6 (hM.below gM gM.size)).mono (fun en w' h => by obtain ⟨E0, hE, r, h1, rfl, h2⟩ := h; exact ⟨_, rfl, E0, hE, r, h1, rfl, h2⟩)) ?_
  intro a v7 u ⟨Ec, hEc, rc, hrc, hu, uc, hb⟩ S
  injection hu with hu
  subst hu
  have jc : ∀ g, hasB (eO rc) g → v6.heap.size ≤ g ∧ g < v7.heap.size := fun g hg => by obtain ⟨p1, _, p2⟩ := (eO_own uc).has hg; exact ⟨p1, p2.lt⟩
  replace kbx := kbx.below hb kbx.lt
  replace kM := kM.below hb kM.lt
  replace ua := ua.below hb
  replace kA := kA.below hb kA.lt
  replace ub := ub.below hb
  replace kB := kB.below hb kB.lt
  have zv7 := hb.size
  replace gM := gM.trans (hb.mono gM.size)
  refine sxMv S (wantN rfl _) rfl (fun _ => rfl) ?_; intro a S
  refine sx1 47 S (.agg (oA rc)) (wantN rfl _) rfl (fun _ => rfl) (fun ev ec e => by go_simp; try rfl) ?_; intro a S
  refine sx1 47 S (.int .i64 Ec) (wantN rfl _) rfl (fun _ => rfl) (fun ev ec e => by go_simp; try rfl) ?_; intro a S
  refine sxW S (.pointer (some ⟨v7.heap.size, 0, none⟩)) (v7.alloc (.cells zA 27)) (wantN rfl _) (by go_simp; try rfl) ?_; intro a S
  refine wpList_store_row rfl 27 (.tmp 15) (.tmp 50) rfl v7.heap.size (oA rc) (S.fx 15 _ rfl) (S.fx 50 _ rfl) 27 zA (Blk.new v7 27 zA).row (by kernel_rfl) rfl (by simp [Value.oneCell']) ?_
  replace S := S.none_ (v := undef)
  have kC := (Blk.new v7 27 zA).setRow (oA rc)
  have hb := below_setRow (g := v7.heap.size) ((Below.refl v7.heap.size v7).alloc (Nat.le_refl _) (.cells zA 27)) (Nat.le_refl _) (oA rc)
  obtain ⟨v9, hw⟩ : ∃ W, W = (v7.alloc (.cells zA 27)).setRow v7.heap.size (oA rc) := ⟨_, rfl⟩
  rw [← hw] at kC hb ⊢
  clear hw
  replace kbx := kbx.below hb kbx.lt
  replace kM := kM.below hb kM.lt
  replace ua := ua.below hb
  replace kA := kA.below hb kA.lt
  replace ub := ub.below hb
  replace kB := kB.below hb kB.lt
  replace uc := uc.below hb
  have zv9 := hb.size
  replace gM := gM.trans (hb.mono gM.size)
  refine sx1 51 S (.int .i64 Ec) (wantN rfl _) rfl (fun _ => rfl) (fun ev ec e => by go_simp; try rfl) ?_; intro a S
  refine wpList_nil ?_
  show Code.wp _ _ _ _ _
  refine wp_seq (wp_region_lit ?_)
  refine sx1 7 S (.agg (mA o)) (wantN rfl _) rfl (fun _ => rfl) (fun ev ec e => run_load_row 32 _ rfl _ e (mA o) 32 _ kbx Tryd.underlying32 rfl (by kernel_rfl)) ?_; intro a S
  refine sxK 53 S 13 (fun u w' => OfP o v9 (.returned u) w') rfl (fun ev ef e => by go_simp; try rfl) ((rof_any o hsm v9 (gr'.below gM gM.size)).mono (fun en w' h => by obtain ⟨E0, hE, r, h1, rfl, h2⟩ := h; exact ⟨_, rfl, E0, hE, r, h1, rfl, h2⟩)) ?_
  intro a v10 u ⟨Ed, hEd, rd, hrd, hu, ud, hb⟩ S
  injection hu with hu
  subst hu
  obtain rfl : Ec = Ed := by
    rw [er] at hEc
    rcases hEc with h | h <;> rcases hEd with h' | h'
    · rw [h.2, h'.2]
    · exact absurd h.1 h'.1
    · exact absurd h'.1 h.1
    · rw [h.2, h'.2]
  rw [er] at hrc
  clear hEc hEd
  replace kbx := kbx.below hb kbx.lt
  replace kM := kM.below hb kM.lt
  replace ua := ua.below hb
  replace kA := kA.below hb kA.lt
  replace ub := ub.below hb
  replace kB := kB.below hb kB.lt
  replace uc := uc.below hb
  replace kC := kC.below hb kC.lt
  have zv10 := hb.size
  replace gM := gM.trans (hb.mono gM.size)
  refine sxMv S (wantN rfl _) rfl (fun _ => rfl) ?_; intro a S
  refine sx1 52 S (.agg (oA rd)) (wantN rfl _) rfl (fun _ => rfl) (fun ev ec e => by go_simp; try rfl) ?_; intro a S
  refine sx1 52 S (.int .i64 Ec) (wantN rfl _) rfl (fun _ => rfl) (fun ev ec e => by go_simp; try rfl) ?_; intro a S
  refine sxW S (.pointer (some ⟨v10.heap.size, 0, none⟩)) (v10.alloc (.cells zA 27)) (wantN rfl _) (by go_simp; try rfl) ?_; intro a S
  refine wpList_store_row rfl 27 (.tmp 17) (.tmp 55) rfl v10.heap.size (oA rd) (S.fx 17 _ rfl) (S.fx 55 _ rfl) 27 zA (Blk.new v10 27 zA).row (by kernel_rfl) rfl (by simp [Value.oneCell']) ?_
  replace S := S.none_ (v := undef)
  have kD := (Blk.new v10 27 zA).setRow (oA rd)
  have hb := below_setRow (g := v10.heap.size) ((Below.refl v10.heap.size v10).alloc (Nat.le_refl _) (.cells zA 27)) (Nat.le_refl _) (oA rd)
  obtain ⟨v12, hw⟩ : ∃ W, W = (v10.alloc (.cells zA 27)).setRow v10.heap.size (oA rd) := ⟨_, rfl⟩
  rw [← hw] at kD hb ⊢
  clear hw
  replace kbx := kbx.below hb kbx.lt
  replace kM := kM.below hb kM.lt
  replace ua := ua.below hb
  replace kA := kA.below hb kA.lt
  replace ub := ub.below hb
  replace kB := kB.below hb kB.lt
  replace uc := uc.below hb
  replace kC := kC.below hb kC.lt
  replace ud := ud.below hb
  have zv12 := hb.size
  replace gM := gM.trans (hb.mono gM.size)
  refine sx1 56 S (.int .i64 Ec) (wantN rfl _) rfl (fun _ => rfl) (fun ev ec e => by go_simp; try rfl) ?_; intro a S
  refine wpList_nil ?_
  show Code.wp _ _ _ _ _
  refine wp_seq (wp_region_lit ?_)
  refine sxMv S (wantN rfl _) rfl (fun _ => rfl) ?_; intro a S
  refine sxK 57 S 14 (fun u w' => ∃ At ct oT, u = .slice At n ct ∧ oT.map (·.x) = l ∧ RowE w' v12.heap.size At n ct oT ∧ Below v12.heap.size v12 w') rfl (fun ev ef e => by go_simp; try rfl) ((etwin_any Ao n co l hn10 gs1 v12 (Recs.more (Recs.below hW gM) gM.size)).mono (fun en w' h => by obtain ⟨At, ct, rfl, h⟩ := h; obtain ⟨oT, h1, h2⟩ := accE_row h.2.2.2.2; exact ⟨_, rfl, At, ct, oT, rfl, h1, h2, h.2.2.2.1⟩)) ?_
  intro a v13 u ⟨At, ct, oT, hu, eT, rT, hb⟩ S
  subst hu
  have jt := rT.lim
  replace kbx := kbx.below hb kbx.lt
  replace kM := kM.below hb kM.lt
  replace ua := ua.below hb
  replace kA := kA.below hb kA.lt
  replace ub := ub.below hb
  replace kB := kB.below hb kB.lt
  replace uc := uc.below hb
  replace kC := kC.below hb kC.lt
  replace ud := ud.below hb
  replace kD := kD.below hb kD.lt
  have zv13 := hb.size
  replace gM := gM.trans (hb.mono gM.size)
  refine sx1 58 S (.slice At n ct) (wantN rfl _) rfl (fun _ => rfl) (fun ev ec e => by go_simp; try rfl) ?_; intro a S
  refine wpList_nil ?_
  show Code.wp _ _ _ _ _
  refine wp_seq (wp_region_lit ?_)
  refine sx1 11 S (.agg (oA ra)) (wantN rfl _) rfl (fun _ => rfl) (fun ev ec e => run_load_row 27 _ rfl _ e (oA ra) 27 _ kA Tryd.underlying27 rfl (by kernel_rfl)) ?_; intro a S
  refine sx1 13 S (.agg (oA rb)) (wantN rfl _) rfl (fun _ => rfl) (fun ev ec e => run_load_row 27 _ rfl _ e (oA rb) 27 _ kB Tryd.underlying27 rfl (by kernel_rfl)) ?_; intro a S
  refine sxC2 59 60 S 15 (.bool true) (wantN rfl _) rfl rfl (fun _ => rfl) (fun _ => rfl) (fun ev ef e e2 => by go_simp; try rfl) (by exact rmsame_any _ _ _ _ _ _ _ _ _ _ _ _ _ _ _ _ _ _ _ _ _ _ _ _ _ _ _ _ _ _ _ _ _ _ _ _ _ _ _ _  ra.m rb.m (by rw [hra]; exact (lsM_ok (fun d hd => sumL_ok (show sumL _ = some d from hd))).sm) (by rw [hrb]; exact (lsM_ok (fun d hd => sumL_ok (show sumL _ = some d from hd))).sm) v13 ua.rd ub true (decide_eq_true (hra.trans hrb.symm))) ?_
  intro a v14 hb S
  replace kbx := kbx.below hb kbx.lt
  replace kM := kM.below hb kM.lt
  replace ua := ua.below hb
  replace kA := kA.below hb kA.lt
  replace ub := ub.below hb
  replace kB := kB.below hb kB.lt
  replace uc := uc.below hb
  replace kC := kC.below hb kC.lt
  replace ud := ud.below hb
  replace kD := kD.below hb kD.lt
  replace rT := rT.below hb
  have zv14 := hb.size
  replace gM := gM.trans (hb.mono gM.size)
  refine sxMv S (wantN rfl _) rfl (fun _ => rfl) ?_; intro a S
  refine sxMv S (wG S rfl rfl (by decide) rfl) rfl (fun _ => rfl) ?_; intro a S
  refine sxMv S (wG S rfl rfl (by decide) rfl) rfl (fun _ => rfl) ?_; intro a S
  refine sx2 63 64 S (.bool true) (wG S rfl rfl (by decide) rfl) rfl rfl (fun _ => rfl) (fun _ => rfl) (fun ev ec e e2 => by go_simp; try simp) ?_; intro a S
  refine sxAnd S (wantN rfl _) rfl rfl (fun _ => rfl) (fun _ _ => rfl) ?_; intro a S
  refine sxMv S (wantN rfl _) rfl (fun _ => rfl) ?_; intro a S
  refine sx1 15 S (.agg (oA rc)) (wG S rfl rfl (by decide) rfl) rfl (fun _ => rfl) (fun ev ec e => run_load_row 27 _ rfl _ e (oA rc) 27 _ kC Tryd.underlying27 rfl (by kernel_rfl)) ?_; intro a S
  refine sx1 17 S (.agg (oA rd)) (wG S rfl rfl (by decide) rfl) rfl (fun _ => rfl) (fun ev ec e => run_load_row 27 _ rfl _ e (oA rd) 27 _ kD Tryd.underlying27 rfl (by kernel_rfl)) ?_; intro a S
  refine sxC2 68 69 S 15 (.bool true) (wG S rfl rfl (by decide) rfl) rfl rfl (fun _ => rfl) (fun _ => rfl) (fun ev ef e e2 => by go_simp; try rfl) (by exact rmsame_any _ _ _ _ _ _ _ _ _ _ _ _ _ _ _ _ _ _ _ _ _ _ _ _ _ _ _ _ _ _ _ _ _ _ _ _ _ _ _ _  rc.m rd.m (by rw [hrc]; exact carL_sm hsm _) (by rw [hrd]; exact carL_sm hsm _) v14 uc.rd ud.rd true (decide_eq_true (hrc.trans hrd.symm))) ?_
  intro a v15 hb S
  replace kbx := kbx.below hb kbx.lt
  replace kM := kM.below hb kM.lt
  replace ua := ua.below hb
  replace kA := kA.below hb kA.lt
  replace ub := ub.below hb
  replace kB := kB.below hb kB.lt
  replace uc := uc.below hb
  replace kC := kC.below hb kC.lt
  replace ud := ud.below hb
  replace kD := kD.below hb kD.lt
  replace rT := rT.below hb
  have zv15 := hb.size
  replace gM := gM.trans (hb.mono gM.size)
  refine sxAnd S (wantN rfl _) rfl rfl (fun _ => rfl) (fun _ _ => rfl) ?_; intro a S
  refine sxMv S (wantN rfl _) rfl (fun _ => rfl) ?_; intro a S
  refine sxMv S (wG S rfl rfl (by decide) rfl) rfl (fun _ => rfl) ?_; intro a S
  refine sxMv S (wG S rfl rfl (by decide) rfl) rfl (fun _ => rfl) ?_; intro a S
  refine sx2 73 74 S (.bool true) (wG S rfl rfl (by decide) rfl) rfl rfl (fun _ => rfl) (fun _ => rfl) (fun ev ec e e2 => by go_simp; try simp) ?_; intro a S
  refine sxAnd S (wantN rfl _) rfl rfl (fun _ => rfl) (fun _ _ => rfl) ?_; intro a S
  refine sxMv S (wantN rfl _) rfl (fun _ => rfl) ?_; intro a S
  refine sxMv S (wG S rfl rfl (by decide) rfl) rfl (fun _ => rfl) ?_; intro a S
  refine sxMv S (wG S rfl rfl (by decide) rfl) rfl (fun _ => rfl) ?_; intro a S
  refine sxC2 78 79 S 16 (.bool true) (wG S rfl rfl (by decide) rfl) rfl rfl (fun _ => rfl) (fun _ => rfl) (fun ev ef e e2 => by go_simp; try rfl) (by exact rsame_any At A n n ct c l l hn10 hn10 gs1 gs1 true (decide_eq_true rfl) v15 (rT.ens eT) (Recs.more (Recs.below g1 gM) gM.size)) ?_
  intro a v16 hb S
  replace kbx := kbx.below hb kbx.lt
  replace kM := kM.below hb kM.lt
  replace ua := ua.below hb
  replace kA := kA.below hb kA.lt
  replace ub := ub.below hb
  replace kB := kB.below hb kB.lt
  replace uc := uc.below hb
  replace kC := kC.below hb kC.lt
  replace ud := ud.below hb
  replace kD := kD.below hb kD.lt
  replace rT := rT.below hb
  have zv16 := hb.size
  replace gM := gM.trans (hb.mono gM.size)
  refine sxAnd S (wantN rfl _) rfl rfl (fun _ => rfl) (fun _ _ => rfl) ?_; intro a S
  refine sxMv S (wantN rfl _) rfl (fun _ => rfl) ?_; intro a S
  refine sxMv S (wG S rfl rfl (by decide) rfl) rfl (fun _ => rfl) ?_; intro a S
  refine sxMv S (wG S rfl rfl (by decide) rfl) rfl (fun _ => rfl) ?_; intro a S
  refine sxC2 83 84 S 17 (.bool (decide (l = l2))) (wG S rfl rfl (by decide) rfl) rfl rfl (fun _ => rfl) (fun _ => rfl) (fun ev ef e e2 => by go_simp; try rfl) (by exact esame_any Ao A2 n n2 co c2 l l2 hn10 hn20 gs1 gs2 (decide (l = l2)) rfl v16 (Recs.more (Recs.below hW gM) gM.size) (Recs.more (Recs.below g2 gM) gM.size)) ?_
  intro a v17 hb S
  replace kbx := kbx.below hb kbx.lt
  replace kM := kM.below hb kM.lt
  replace ua := ua.below hb
  replace kA := kA.below hb kA.lt
  replace ub := ub.below hb
  replace kB := kB.below hb kB.lt
  replace uc := uc.below hb
  replace kC := kC.below hb kC.lt
  replace ud := ud.below hb
  replace kD := kD.below hb kD.lt
  replace rT := rT.below hb
  have zv17 := hb.size
  replace gM := gM.trans (hb.mono gM.size)
  refine sxMv S (wG S rfl rfl (by decide) rfl) rfl (fun _ => rfl) ?_; intro a S
  refine sxMv S (wG S rfl rfl (by decide) rfl) rfl (fun _ => rfl) ?_; intro a S
  refine sxC2 86 87 S 16 (.bool (decide (l = l2))) (wG S rfl rfl (by decide) rfl) rfl rfl (fun _ => rfl) (fun _ => rfl) (fun ev ef e e2 => by go_simp; try rfl) (by exact rsame_any A A2 n n2 c c2 l l2 hn10 hn20 gs1 gs2 (decide (l = l2)) rfl v17 (Recs.more (Recs.below g1 gM) gM.size) (Recs.more (Recs.below g2 gM) gM.size)) ?_
  intro a v18 hb S
  replace kbx := kbx.below hb kbx.lt
  replace kM := kM.below hb kM.lt
  replace ua := ua.below hb
  replace kA := kA.below hb kA.lt
  replace ub := ub.below hb
  replace kB := kB.below hb kB.lt
  replace uc := uc.below hb
  replace kC := kC.below hb kC.lt
  replace ud := ud.below hb
  replace kD := kD.below hb kD.lt
  replace rT := rT.below hb
  have zv18 := hb.size
  replace gM := gM.trans (hb.mono gM.size)
  refine sx2 85 88 S (.bool true) (wG S rfl rfl (by decide) rfl) rfl rfl (fun _ => rfl) (fun _ => rfl) (fun ev ec e e2 => by go_simp; try simp) ?_; intro a S
  refine sxAnd S (wantN rfl _) rfl rfl (fun _ => rfl) (fun _ _ => rfl) ?_; intro a S
  refine sxMv S (wantN rfl _) rfl (fun _ => rfl) ?_; intro a S
  refine sxMv S (wG S rfl rfl (by decide) rfl) rfl (fun _ => rfl) ?_; intro a S
  refine sxMv S (wG S rfl rfl (by decide) rfl) rfl (fun _ => rfl) ?_; intro a S
  refine sxC2 92 93 S 17 (.bool true) (wG S rfl rfl (by decide) rfl) rfl rfl (fun _ => rfl) (fun _ => rfl) (fun ev ef e e2 => by go_simp; try rfl) (by exact esame_any Ao A n n co c l l hn10 hn10 gs1 gs1 true (decide_eq_true rfl) v18 (Recs.more (Recs.below hW gM) gM.size) (Recs.more (Recs.below g1 gM) gM.size)) ?_
  intro a v19 hb S
  replace kbx := kbx.below hb kbx.lt
  replace kM := kM.below hb kM.lt
  replace ua := ua.below hb
  replace kA := kA.below hb kA.lt
  replace ub := ub.below hb
  replace kB := kB.below hb kB.lt
  replace uc := uc.below hb
  replace kC := kC.below hb kC.lt
  replace ud := ud.below hb
  replace kD := kD.below hb kD.lt
  replace rT := rT.below hb
  have zv19 := hb.size
  replace gM := gM.trans (hb.mono gM.size)
  refine sxAnd S (wantN rfl _) rfl rfl (fun _ => rfl) (fun _ _ => rfl) ?_; intro a S
  refine sx1 95 S (.bool true) (wantN rfl _) rfl (fun _ => rfl) (fun ev ec e => by go_simp; try rfl) ?_; intro a S
  refine wpList_nil ?_
  show Code.wp _ _ _ _ _
  refine wp_seq (wp_region_lit ?_)
  have sma : smM ra.m := (by rw [hra]; exact (lsM_ok (fun d hd => sumL_ok (show sumL _ = some d from hd))).sm)
  have smc : smM rc.m := (by rw [hrc]; exact carL_sm hsm _)
  clear hra hrb hrc hrd hEa kB kD ub ud
  refine sx1 11 S (.agg (oA ra)) (wantN rfl _) rfl (fun _ => rfl) (fun ev ec e => run_load_row 27 _ rfl _ e (oA ra) 27 _ kA Tryd.underlying27 rfl (by kernel_rfl)) ?_; intro a S
  refine sx1 96 S (.agg (lA ra)) (wantN rfl _) rfl (fun _ => rfl) (fun ev ec e => by go_simp; try rfl) ?_; intro a S
  refine sx1 15 S (.agg (oA rc)) (wantN rfl _) rfl (fun _ => rfl) (fun ev ec e => run_load_row 27 _ rfl _ e (oA rc) 27 _ kC Tryd.underlying27 rfl (by kernel_rfl)) ?_; intro a S
  refine sx1 98 S (.agg (lA rc)) (wantN rfl _) rfl (fun _ => rfl) (fun ev ec e => by go_simp; try rfl) ?_; intro a S
  refine sxW2 97 99 S (.slice (some ⟨v19.heap.size, 0, none⟩) 2 2) (v19.alloc (.cells (row15 (eO ra) ++ row15 (eO rc)).toArray 48)) rfl rfl (fun ev e e2 => by go_simp; try simp [row15, eO]) ?_; intro a S
  have hb := (Below.refl v19.heap.size v19).alloc (Nat.le_refl _) (.cells (row15 (eO ra) ++ row15 (eO rc)).toArray 48)
  have rP := row_two (b := wx.heap.size) (eO_own ua) ((eO_own uc).map (fun h => h.base_le (by omega))) (by omega)
  have hN : (v19.alloc (.cells (row15 (eO ra) ++ row15 (eO rc)).toArray 48)).heap.size = v19.heap.size + 1 := World.size_alloc _ _
  obtain ⟨v20, hw⟩ : ∃ W, W = v19.alloc (.cells (row15 (eO ra) ++ row15 (eO rc)).toArray 48) := ⟨_, rfl⟩
  rw [← hw] at hb rP hN ⊢
  clear hw
  have iP : ∀ g, SB (some ⟨v19.heap.size, 0, none⟩) 2 [eO ra, eO rc] g → g = v19.heap.size ∨ hasB (eO ra) g ∨ hasB (eO rc) g := fun g => SB_two
  clear ua uc kA kC
  replace kbx := kbx.below hb kbx.lt
  replace kM := kM.below hb kM.lt
  replace rT := rT.below hb
  have zv20 := hb.size
  replace gM := gM.trans (hb.mono gM.size)
  have lP : ∀ g, SB (some ⟨v19.heap.size, 0, none⟩) 2 [eO ra, eO rc] g → wx.heap.size ≤ g := by
    intro g hg
    rcases iP g hg with e | e | e
    · omega
    · exact (ja g e).1
    · have := (jc g e).1
      omega
  have dT : ∀ g, SB At n oT g → ¬ SB (some ⟨v19.heap.size, 0, none⟩) 2 [eO ra, eO rc] g := by
    intro g hg hs
    have h2 := jt g hg
    rcases iP g hs with e | e | e
    · omega
    · have := (ja g e).2
      omega
    · have := (jc g e).2
      omega
  have hsP : ∀ z ∈ [(eO ra).x, (eO rc).x], smM z.give := by
    intro z hz
    rcases List.mem_cons.1 hz with rfl | hz
    · exact sma
    · rw [List.mem_singleton.1 hz]
      exact smc
  have lT : ∀ g, SB At n oT g → wx.heap.size ≤ g := fun g hg => by have h2 := jt g hg; omega
  refine sxK 100 S 18 (fun u w' => u = .tuple #[] ∧ Fr (SB (some ⟨v19.heap.size, 0, none⟩) 2 [eO ra, eO rc]) v20 w') rfl (fun ev ef e => by go_simp; try rfl) ((lspoil_any (SB (some ⟨v19.heap.size, 0, none⟩) 2 [eO ra, eO rc]) (some ⟨v19.heap.size, 0, none⟩) 2 2 _ (by omega) hsP v20 (rP.wr (l := [(eO ra).x, (eO rc).x]) rfl)).mono (fun en w' h => ⟨_, h.1, rfl, h.2⟩)) ?_
  intro a v21 u ⟨hu, hf⟩ S
  clear hu
  have zf := hf.2.1
  replace gM := gM.trans (hf.below (B := wx.heap.size) lP)
  replace kbx := hf.blk (fun hs => by have h1 := lP _ hs; omega) kbx
  replace kM := hf.blk (fun hs => by have h1 := lP _ hs; omega) kM
  replace rT := rT.fr hf dT
  clear rP iP ja jc zf hf dT lP
  refine wpList_nil ?_
  show Code.wp _ _ _ _ _
  refine wp_seq (wp_region_lit ?_)
  refine sxMv S (wantN rfl _) rfl (fun _ => rfl) ?_; intro a S
  refine sxK 102 S 18 (fun u w' => u = .tuple #[] ∧ Fr (SB At n oT) v21 w') rfl (fun ev ef e => by go_simp; try rfl) ((lspoil_any (SB At n oT) At n ct _ (by omega) gs1 v21 (rT.wr eT)).mono (fun en w' h => ⟨_, h.1, rfl, h.2⟩)) ?_
  intro a v22 u ⟨hu, hf⟩ S
  clear hu
  have zf := hf.2.1
  replace gM := gM.trans (hf.below (B := wx.heap.size) lT)
  replace kbx := hf.blk (fun hs => by have h1 := lT _ hs; omega) kbx
  replace kM := hf.blk (fun hs => by have h1 := lT _ hs; omega) kM
  clear rT zf hf
  refine wpList_nil ?_
  show Code.wp _ _ _ _ _
  refine wp_seq (wp_region_lit ?_)
  refine sxMv S (wantN rfl _) rfl (fun _ => rfl) ?_; intro a S
  refine sxMv S (wantN rfl _) rfl (fun _ => rfl) ?_; intro a S
  refine sxMv S (wG S rfl rfl (by decide) rfl) rfl (fun _ => rfl) ?_; intro a S
  refine sxMv S (wG S rfl rfl (by decide) rfl) rfl (fun _ => rfl) ?_; intro a S
  refine sxC2 106 107 S 16 (.bool true) (wG S rfl rfl (by decide) rfl) rfl rfl (fun _ => rfl) (fun _ => rfl) (fun ev ef e e2 => by go_simp; try rfl) (by exact rsame_any Ao A n n co c l l hn10 hn10 gs1 gs1 true (decide_eq_true rfl) v22 (Recs.more (Recs.below hW gM) gM.size) (Recs.more (Recs.below g1 gM) gM.size)) ?_
  intro a v23 hb S
  replace kbx := kbx.below hb kbx.lt
  replace kM := kM.below hb kM.lt
  have zv23 := hb.size
  replace gM := gM.trans (hb.mono gM.size)
  refine sxAnd S (wantN rfl _) rfl rfl (fun _ => rfl) (fun _ _ => rfl) ?_; intro a S
  refine sxMv S (wantN rfl _) rfl (fun _ => rfl) ?_; intro a S
  refine sx1 10 S (.agg (mA r)) (wG S rfl rfl (by decide) rfl) rfl (fun _ => rfl) (fun ev ec e => run_load_row 32 _ rfl _ e (mA r) 32 _ kM Tryd.underlying32 rfl (by kernel_rfl)) ?_; intro a S
  refine sx1 7 S (.agg (mA o)) (wG S rfl rfl (by decide) rfl) rfl (fun _ => rfl) (fun ev ec e => run_load_row 32 _ rfl _ e (mA o) 32 _ kbx Tryd.underlying32 rfl (by kernel_rfl)) ?_; intro a S
  refine sxC2 111 112 S 19 (.bool true) (wG S rfl rfl (by decide) rfl) rfl rfl (fun _ => rfl) (fun _ => rfl) (fun ev ef e e2 => by go_simp; try rfl) (by exact rlsame_any r o hsr hsm v23 (hM.below gM gM.size) (gr'.below gM gM.size) true (decide_eq_true er)) ?_
  intro a v24 hb S
  replace kbx := kbx.below hb kbx.lt
  replace kM := kM.below hb kM.lt
  have zv24 := hb.size
  replace gM := gM.trans (hb.mono gM.size)
  refine sxAnd S (wantN rfl _) rfl rfl (fun _ => rfl) (fun _ _ => rfl) ?_; intro a S
  refine sx1 114 S (.bool true) (wantN rfl _) rfl (fun _ => rfl) (fun ev ec e => by go_simp; try rfl) ?_; intro a S
  refine wpList_nil ?_
  show Code.wp _ _ _ _ _
  refine wp_ret ?_
  show Q0 .ret a _
  refine bodyPost_ret (v := .bool true) ?_ S.df ⟨rfl, hBx.trans (gM.mono hBx.size)⟩
  exact (results_tmp rfl _ _ _).trans (by rw [show a.tmps.getD 8 undef = _ from S.fx 8 _ rfl]; rfl)
end Go.Proofs.YtdmjdpaehnhdoaaDoor
