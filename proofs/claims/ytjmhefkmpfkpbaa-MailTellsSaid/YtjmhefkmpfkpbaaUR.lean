/- Mail: the reference's frames, texts and reading -/
import Derived.Test.YtjmhefkmpfkpbaaUP
import Derived.Test.YtjmhefkmpfkpbaaUQ
import Derived.Test.YtjmhefkmpfkpbaaZRefTakeO
import Derived.Test.YtjmhefkmpfkpbaaZPW
namespace Go.Proofs.Ytjmhefkmpfkpbaa
open Go.ChangeShapes Go.WideShapes Go.ChangeAt Go.RowKit
set_option linter.unusedSimpArgs false
set_option linter.unusedVariables false
set_option maxRecDepth 100000
theorem owns_none {w0 w : World} {v : Value} {l : List Nat} (h : Owns w0 w v l) : ∃ A c, v = .slice A l.length c ∧ l.length ≤ c ∧ (A = none → c = 0) ∧ Reads w w.heap.size 1 A l.length (bytes l) := by
  obtain ⟨A, c, rfl, hc, hR⟩ := own_slice h
  refine ⟨A, c, rfl, hc, fun hA => ?_, hR⟩
  subst hA
  rcases h.2 with ⟨e, _⟩ | ⟨g, cap, cur, e, _⟩
  · injection e
  · cases e
/-- What ref04.Take answers. -/
def RTk (w : World) (l : List Nat) (en : Ending) (w' : World) : Prop := ((tkE l ≠ 0 ∧ en = .returned (.tuple #[.int .u8 0, .slice none 0 0, .int .i64 (tkE l)])) ∨ (tkE l = 0 ∧ ∃ A n c, en = .returned (.tuple #[.int .u8 (l.getD 2 0 : Nat), .slice A n c, .int .i64 0]) ∧ n = (content l).length ∧ n ≤ c ∧ (A = none → c = 0) ∧ Reads w' w'.heap.size 1 A n (bytes (content l)))) ∧ Below w.heap.size w w'
theorem rtake_e (A : Option Addr) (n c : Nat) (l : List Nat) (hnl : l.length = n) (hm : n ≤ 10000) (hc : n ≤ c) (hl : ∀ b ∈ l, b < 256) (w : World) (hR : Reads w w.heap.size 1 A n (bytes l)) :
    Calls Try.prog 35 #[.slice A n c] w (RTk w l) := by
  rcases Nat.lt_or_ge n 9 with h9 | h9
  · have e : tkE l = 40 := by unfold tkE; rw [if_pos (by omega)]
    refine (rtake_short A n c h9 w).mono ?_
    rintro en w' ⟨rfl, rfl⟩
    exact ⟨.inl ⟨by rw [e]; decide, by rw [e]⟩, Below.refl _ _⟩
  · obtain ⟨ad, hA, _⟩ := hR.2 (by omega)
    subst hA
    by_cases hs : l.drop (n - 4) = told (crc (l.take (n - 4)))
    · by_cases hf : (l.getD 0 0 = 72 ∧ l.getD 1 0 = 1 ∧ l.getD 3 0 * 256 + l.getD 4 0 = n - 9 ∧ n - 9 ≤ 4096)
      · have e : tkE l = 0 := ok_tkE ⟨by omega, by rw [hnl]; exact hs, by rw [hnl]; exact hf⟩
        refine (rtake_ok ad n c l hnl h9 hm hc hl w hR hs hf).mono ?_
        rintro en w' ⟨v, rfl, ho, hb⟩
        obtain ⟨A', c', rfl, hc', hA', hR'⟩ := owns_none ho
        exact ⟨.inr ⟨e, A', _, c', rfl, rfl, hc', hA', hR'⟩, hb⟩
      · have e : tkE l = 41 := by unfold tkE; rw [if_neg (by omega), if_neg (by rw [hnl]; intro h; exact h hs), if_pos (by rw [hnl]; exact hf)]
        refine (rtake_form ad n c l hnl h9 hm hc hl w hR hs hf).mono ?_
        rintro en w' ⟨rfl, hb⟩
        exact ⟨.inl ⟨by rw [e]; decide, by rw [e]⟩, hb⟩
    · have e : tkE l = 42 := by unfold tkE; rw [if_neg (by omega), if_pos (by rw [hnl]; exact hs)]
      refine (rtake_sum ad n c l hnl h9 hm hc hl w hR hs).mono ?_
      rintro en w' ⟨rfl, hb⟩
      exact ⟨.inl ⟨by rw [e]; decide, by rw [e]⟩, hb⟩
theorem rtext10 (o : MO) (hok : okL o.x) (hb : ltL o.x) (w0 : World) (hr : rdL w0 w0.heap.size o) : Calls Try.prog 32 #[aggL o] w0 fun en w' => ∃ v, en = .returned v ∧ Owns w0 w' v (framed o.x.kd.toNat (byP o.x)) ∧ Below w0.heap.size w0 w' := by
  change Calls Try.prog 32 #[.agg (mA o)] w0 _
  go_enter Try.func32, Try.ntmps32
  refine wp_abs (l := [(0, gv true (.agg (mA o)))]) 8 rfl rfl (allC rfl allN) ?_
  intro a S
  refine wp_seq (wp_region_lit ?_)
  refine sxW S (.pointer (some ⟨w0.heap.size, 0, none⟩)) (w0.alloc (.cells (mA o) 31)) (wantN rfl _) (runG 0 S rfl rfl (fun ev ec ef e => by go_simp; try rfl)) ?_; intro a S
  refine sx0 S (.slice none 0 0) (wantN rfl _) rfl (by decide) (fun _ => by go_simp; try rfl) ?_; intro a S
  have kk := Blk.new w0 31 (mA o)
  have hB := (Below.refl w0.heap.size w0).alloc (Nat.le_refl _) (.cells (mA o) 31)
  obtain ⟨w, hw⟩ : ∃ W, W = w0.alloc (.cells (mA o) 31) := ⟨_, rfl⟩
  rw [← hw] at kk hB ⊢
  clear hw
  refine wpList_nil ?_
  show Code.wp _ _ _ _ _
  refine wp_seq (wp_region_noPanic ?_)
  refine wp_region_held_drew (S := fun w' => Below w0.heap.size w0 w' ∧ Blk w' w0.heap.size 31 (mA o)) (by kernel_rfl) ⟨hB.drew, kk.drew⟩ (fun HS => ?_)
  clear hB kk
  obtain ⟨w1, hw⟩ : ∃ W, W = w.drew := ⟨_, rfl⟩
  rw [← hw] at HS ⊢
  clear hw
  refine hx1 1 S (.pointer (some ⟨w0.heap.size, 0, none⟩)) (i := 0) rfl rfl (fun w' hw ev ec e => by go_simp; try rfl) HS ?_ (by kernel_rfl) (by kernel_rfl) (by kernel_rfl)
  intro a S
  refine hx1 3 S (.int .u8 o.x.kd) (i := 1) rfl rfl (fun w' hw ev ec e => by have s0 := hw.2.cell 0; go_simp; try rfl) HS ?_ (by kernel_rfl) (by kernel_rfl) (by kernel_rfl)
  intro a S
  refine hx1 1 S (.agg (mA o)) (i := 2) rfl rfl (fun w' hw ev ec e => run_load_row 31 _ rfl _ e (mA o) 31 _ hw.2 Try.underlying31 rfl (by kernel_rfl)) HS ?_ (by kernel_rfl) (by kernel_rfl) (by kernel_rfl)
  intro a S
  refine wpAnyH_ready (rs := [3]) (by kernel_rfl) (by simp) (AllReadyH.cons rfl ?_ AllReadyH.nil)
  refine hKG (fun p : Option Addr × Nat => .slice p.1 (total (conP o.x)) p.2) (none, 0) S 66 #[aggL o] (fun p w' => w'.ownsRow w1.heap.size 5 1 (.slice p.1 (total (conP o.x)) p.2) (total (conP o.x)) (u8s (flat (conP o.x))) ∧ Below w1.heap.size w1 w') (wantN rfl _) HS (fun _ => runG 5 S rfl rfl (fun ev ec ef e => by go_simp; try rfl)) (fun _ => (rcontent_any o hok hb w1 (hr.below HS.1 HS.1.size)).mono (fun en w' ⟨X, cc, h1, h2, h3⟩ => ⟨(X, cc), h1, h2, h3⟩)) (fun p w' hh => ⟨HS.1.trans (hh.2.mono HS.1.size), HS.2.below hh.2 HS.2.lt⟩) ?_
  intro a w2 ⟨X, cc⟩ hx HS S
  replace hx := hx rfl
  obtain ⟨kn, hkn⟩ : ∃ k : Nat, Hid (o.x.kd.toNat = k) := ⟨_, Lib.hid rfl⟩
  have ek : o.x.kd = (kn : Int) := by have := hkn.out; have := hok.1.1; omega
  rw [ek] at S
  rw [hkn.out]
  refine wpAnyH_ready (rs := [4]) (by kernel_rfl) (by simp) (AllReadyH.cons rfl ?_ AllReadyH.nil)
  refine hKG (fun v : Value => v) undef S 65 #[.int .u8 (kn : Int), .slice X (total (conP o.x)) cc] (fun v w' => Owns w0 w' v (framed kn (byP o.x)) ∧ Below w2.heap.size w2 w') (wantN rfl _) HS (fun _ => runG2 4 6 S rfl rfl (fun ev ec ef e e2 => by go_simp; try rfl)) (fun _ => (rframed kn (by have := hok.1.2.1; omega) X (total (conP o.x)) cc (byP o.x) (byP_len _) (byP_lt _) (by have := conP_total hok; omega) w2 (by rw [show bytes (byP o.x) = u8s (flat (conP o.x)) from (u8s_bytes (fun b hb => (flat_byte _ b hb).1)).symm]; exact Reads.of_own hx.1)).mono (fun en w' ⟨v, h1, h2, h3⟩ => ⟨v, h1, own_base_leU h2 HS.1.size, h3⟩)) (fun p w' hh => ⟨HS.1.trans (hh.2.mono HS.1.size), HS.2.below hh.2 HS.2.lt⟩) ?_
  intro a w3 v hv HS S
  replace hv := hv rfl
  refine hx1 7 S v (i := 5) rfl rfl (fun w' hw ev ec e => by go_simp; try rfl) HS ?_ (by kernel_rfl) (by kernel_rfl) (by kernel_rfl)
  intro a S
  refine wpAnyH_done (by kernel_rfl) ?_ _
  refine NoPanic.normal ?_
  show Code.wp _ _ _ _ _
  refine wp_ret ?_
  first | (show bodyPost _ _ _ .ret a _) | (refine then_ret ?_; show bodyPost _ _ _ .ret a _)
  refine bodyPost_ret (v := v) ?_ S.df ⟨v, rfl, hv.1, HS.1⟩
  exact (results_tmp rfl _ _ _).trans (by rw [show a.tmps.getD 2 undef = _ from S.fx 2 _ rfl]; rfl)
theorem rwrite_any (o : MO) (hsm : smL o.x) (hlt : ltL o.x) (w0 : World) (hr : rdL w0 w0.heap.size o) : Calls Try.prog 13 #[aggL o] w0 (WrP o.x w0) := by
  change Calls Try.prog 13 #[.agg (mA o)] w0 _
  go_enter Try.func13, Try.ntmps13
  refine wp_abs (l := [(0, gv true (.agg (mA o)))]) 9 rfl rfl (allC rfl allN) ?_
  intro a S
  refine wp_seq (wp_region_lit ?_)
  refine sxW S (.pointer (some ⟨w0.heap.size, 0, none⟩)) (w0.alloc (.cells (mA o) 31)) (wantN rfl _) (runG 0 S rfl rfl (fun ev ec ef e => by go_simp; try rfl)) ?_; intro a S
  refine sx0 S (.slice none 0 0) (wantN rfl _) rfl (by decide) (fun _ => by go_simp; try rfl) ?_; intro a S
  refine sx0 S (.int .i64 0) (wantN rfl _) rfl (by decide) (fun _ => by go_simp; try rfl) ?_; intro a S
  have kk := Blk.new w0 31 (mA o)
  have hB := (Below.refl w0.heap.size w0).alloc (Nat.le_refl _) (.cells (mA o) 31)
  obtain ⟨w, hw⟩ : ∃ W, W = w0.alloc (.cells (mA o) 31) := ⟨_, rfl⟩
  rw [← hw] at kk hB ⊢
  clear hw
  refine wpList_nil ?_
  show Code.wp _ _ _ _ _
  refine wp_seq (wp_seq (wp_region_lit ?_))
  refine sx1 1 S (.agg (mA o)) (wantN rfl _) rfl (fun _ => rfl) (fun ev ec e => run_load_row 31 _ rfl _ e (mA o) 31 _ kk Try.underlying31 rfl (by kernel_rfl)) ?_; intro a S
  refine sxKA S 31 #[aggL o] (fun u w' => ∃ R : Bool, u = .bool R ∧ (R = true ↔ okL o.x) ∧ Below w.heap.size w w') (runG 4 S rfl rfl (fun ev ec ef e => by go_simp; try rfl)) ((rlmay_any o hsm w (hr.below hB hB.size)).mono (fun en w' ⟨R, h1, h2, h3⟩ => ⟨_, h1, R, rfl, h2, h3⟩)) ?_
  rintro a w1 u ⟨R, rfl, hR, hb1⟩ S
  refine qNot (fun a S => ?_)
  replace kk := kk.below hb1 kk.lt
  replace hB := hB.trans (hb1.mono hB.size)
  clear hb1
  refine wpList_nil ?_
  show Code.wp _ _ _ _ _
  refine wp_cond_split (S.fx 6 _ rfl) (fun ht => ?_) (fun hf => ?_)
  · refine wp_seq (wp_region_lit ?_)
    refine sx0 S (.slice none 0 0) (wantN rfl _) rfl (by decide) (fun _ => by go_simp; try rfl) ?_; intro a S
    refine sx0 S (.int .i64 100) (wantN rfl _) rfl (by decide) (fun _ => by go_simp; try rfl) ?_; intro a S
    refine wpList_nil ?_
    show Code.wp _ _ _ _ _
    refine wp_ret ?_
    first | (show bodyPost _ _ _ .ret a _) | (refine then_ret ?_; show bodyPost _ _ _ .ret a _)
    refine bodyPost_ret (v := .tuple #[.slice none 0 0, .int .i64 100]) ?_ S.df ?_
    · exact (results_tmp2 rfl _ _ _).trans (by rw [show a.tmps.getD 2 undef = _ from S.fx 2 _ rfl, show a.tmps.getD 3 undef = _ from S.fx 3 _ rfl]; rfl)
    exact ⟨hB, .inl ⟨fun h => (by rw [hR.2 h] at ht; cases ht), rfl⟩⟩
  · refine wp_skip ?_
    show Code.wp _ _ _ _ _
    have hok : okL o.x := hR.1 (by simpa using hf)
    refine wp_seq (wp_region_lit ?_)
    refine sx1 1 S (.agg (mA o)) (wantN rfl _) rfl (fun _ => rfl) (fun ev ec e => run_load_row 31 _ rfl _ e (mA o) 31 _ kk Try.underlying31 rfl (by kernel_rfl)) ?_; intro a S
    refine sxKA S 32 #[aggL o] (fun u w' => Owns w1 w' u (framed o.x.kd.toNat (byP o.x)) ∧ Below w1.heap.size w1 w') (runG 7 S rfl rfl (fun ev ec ef e => by go_simp; try rfl)) ((rtext10 o hok hlt w1 (hr.below hB hB.size)).mono (fun en w' ⟨v, h1, h2, h3⟩ => ⟨v, h1, h2, h3⟩)) ?_
    rintro a w2 v ⟨hv, hb2⟩ S
    refine qAs (fun a S => ?_)
    refine sx0 S (.int .i64 0) (wantN rfl _) rfl (by decide) (fun _ => by go_simp; try rfl) ?_; intro a S
    refine wpList_nil ?_
    show Code.wp _ _ _ _ _
    refine wp_ret ?_
    first | (show bodyPost _ _ _ .ret a _) | (refine then_ret ?_; show bodyPost _ _ _ .ret a _)
    refine bodyPost_ret (v := .tuple #[v, .int .i64 0]) ?_ S.df ?_
    · exact (results_tmp2 rfl _ _ _).trans (by rw [show a.tmps.getD 2 undef = _ from S.fx 2 _ rfl, show a.tmps.getD 3 undef = _ from S.fx 3 _ rfl]; rfl)
    exact ⟨hB.trans (hb2.mono hB.size), .inr ⟨hok, v, rfl, own_base_leU hv hB.size⟩⟩
theorem rcheck10 (o : MO) (hsm : smL o.x) (w0 : World) (hr : rdL w0 w0.heap.size o) : Calls Try.prog 18 #[aggL o] w0 fun en w' => ∃ E, en = .returned (.int .i64 E) ∧ ((okL o.x ∧ E = 0) ∨ (¬ okL o.x ∧ E = 100)) ∧ Below w0.heap.size w0 w' := by
  change Calls Try.prog 18 #[.agg (mA o)] w0 _
  go_enter Try.func18, Try.ntmps18
  refine wp_abs (l := [(0, gv true (.agg (mA o)))]) 6 rfl rfl (allC rfl allN) ?_
  intro a S
  refine wp_seq (wp_region_lit ?_)
  refine sxW S (.pointer (some ⟨w0.heap.size, 0, none⟩)) (w0.alloc (.cells (mA o) 31)) (wantN rfl _) (runG 0 S rfl rfl (fun ev ec ef e => by go_simp; try rfl)) ?_; intro a S
  refine sx0 S (.int .i64 0) (wantN rfl _) rfl (by decide) (fun _ => by go_simp; try rfl) ?_; intro a S
  have kk := Blk.new w0 31 (mA o)
  have hB := (Below.refl w0.heap.size w0).alloc (Nat.le_refl _) (.cells (mA o) 31)
  obtain ⟨w, hw⟩ : ∃ W, W = w0.alloc (.cells (mA o) 31) := ⟨_, rfl⟩
  rw [← hw] at kk hB ⊢
  clear hw
  refine wpList_nil ?_
  show Code.wp _ _ _ _ _
  refine wp_seq (wp_seq (wp_region_lit ?_))
  refine sx1 1 S (.agg (mA o)) (wantN rfl _) rfl (fun _ => rfl) (fun ev ec e => run_load_row 31 _ rfl _ e (mA o) 31 _ kk Try.underlying31 rfl (by kernel_rfl)) ?_; intro a S
  refine sxKA S 31 #[aggL o] (fun u w' => ∃ R : Bool, u = .bool R ∧ (R = true ↔ okL o.x) ∧ Below w.heap.size w w') (runG 3 S rfl rfl (fun ev ec ef e => by go_simp; try rfl)) ((rlmay_any o hsm w (hr.below hB hB.size)).mono (fun en w' ⟨R, h1, h2, h3⟩ => ⟨_, h1, R, rfl, h2, h3⟩)) ?_
  rintro a w1 u ⟨R, rfl, hR, hb1⟩ S
  refine qNot (fun a S => ?_)
  replace kk := kk.below hb1 kk.lt
  replace hB := hB.trans (hb1.mono hB.size)
  clear hb1
  refine wpList_nil ?_
  show Code.wp _ _ _ _ _
  refine wp_cond_split (S.fx 5 _ rfl) (fun ht => ?_) (fun hf => ?_)
  · refine wp_seq (wp_region_lit ?_)
    refine sx0 S (.int .i64 100) (wantN rfl _) rfl (by decide) (fun _ => by go_simp; try rfl) ?_; intro a S
    refine wpList_nil ?_
    show Code.wp _ _ _ _ _
    refine wp_ret ?_
    first | (show bodyPost _ _ _ .ret a _) | (refine then_ret ?_; show bodyPost _ _ _ .ret a _)
    refine bodyPost_ret (v := .int .i64 100) ?_ S.df ?_
    · exact (results_tmp rfl _ _ _).trans (by rw [show a.tmps.getD 2 undef = _ from S.fx 2 _ rfl]; rfl)
    exact ⟨100, rfl, .inr ⟨fun h => (by rw [hR.2 h] at ht; cases ht), rfl⟩, hB⟩
  · refine wp_skip ?_
    show Code.wp _ _ _ _ _
    refine wp_seq (wp_region_lit ?_)
    refine sx0 S (.int .i64 0) (wantN rfl _) rfl (by decide) (fun _ => by go_simp; try rfl) ?_; intro a S
    refine wpList_nil ?_
    show Code.wp _ _ _ _ _
    refine wp_ret ?_
    first | (show bodyPost _ _ _ .ret a _) | (refine then_ret ?_; show bodyPost _ _ _ .ret a _)
    refine bodyPost_ret (v := .int .i64 0) ?_ S.df ?_
    · exact (results_tmp rfl _ _ _).trans (by rw [show a.tmps.getD 2 undef = _ from S.fx 2 _ rfl]; rfl)
    exact ⟨0, rfl, .inl ⟨hR.1 (by simpa using hf), rfl⟩, hB⟩
set_option maxHeartbeats 8000000 in
theorem rread_any (A : Option Addr) (n c : Nat) (b : List Nat) (hn : b.length = n) (hm : n ≤ 10000) (hc : n ≤ c) (hl : ∀ x ∈ b, x < 256) (w0 : World) (hR : Reads w0 w0.heap.size 1 A n (bytes b)) :
    Calls Try.prog 15 #[.slice A n c] w0 (ReadP b w0) := by
  go_enter Try.func15, Try.ntmps15
  refine wp_abs (l := [(0, gv true (.slice A n c))]) 29 rfl rfl (allC rfl allN) ?_
  intro a S
  refine wp_seq (wp_region_lit ?_)
  refine sxW S (.pointer (some ⟨w0.heap.size, 0, none⟩)) (w0.alloc (.cells z24 31)) (wantN rfl _) (by go_simp; try rfl) ?_; intro a S
  refine sx0 S (.int .i64 0) (wantN rfl _) rfl (by decide) (fun _ => by go_simp; try rfl) ?_; intro a S
  have kk := Blk.new w0 31 z24
  have hB := (Below.refl w0.heap.size w0).alloc (Nat.le_refl _) (.cells z24 31)
  obtain ⟨w, hw⟩ : ∃ W, W = w0.alloc (.cells z24 31) := ⟨_, rfl⟩
  rw [← hw] at kk hB ⊢
  clear hw
  refine wpList_nil ?_
  show Code.wp _ _ _ _ _
  refine wp_seq (wp_region_lit ?_)
  refine qMv (fun a S => ?_)
  refine sxKA S 35 #[.slice A n c] (fun u w' => RTk w b (.returned u) w') (runG 10 S rfl rfl (fun ev ec ef e => by go_simp; try rfl)) ((rtake_e A n c b hn hm hc hl w ((hR.below hB).more hB.size)).mono (fun en w' h => by rcases h with ⟨⟨h1, rfl⟩ | ⟨h1, A', n', c', rfl, h2⟩, h3⟩; exact ⟨_, rfl, .inl ⟨h1, rfl⟩, h3⟩; exact ⟨_, rfl, .inr ⟨h1, A', n', c', rfl, h2⟩, h3⟩)) ?_
  intro a w1 u hu S
  obtain ⟨K, A1, n1, c1, rfl, hK, hb1⟩ : ∃ (K : Int) (A1 : Option Addr) (n1 c1 : Nat), u = .tuple #[.int .u8 K, .slice A1 n1 c1, .int .i64 (tkE b)] ∧ (tkE b = 0 → K = ((b.getD 2 0 : Nat) : Int) ∧ n1 = (content b).length ∧ n1 ≤ c1 ∧ (A1 = none → c1 = 0) ∧ Reads w1 w1.heap.size 1 A1 n1 (bytes (content b))) ∧ Below w.heap.size w w1 := by
    rcases hu with ⟨⟨h1, h2⟩ | ⟨h1, A', n', c', h2, h3⟩, h4⟩
    · injection h2 with h2
      exact ⟨0, none, 0, 0, h2, fun h => absurd h h1, h4⟩
    · injection h2 with h2
      exact ⟨_, A', n', c', by rw [h1]; exact h2, fun _ => ⟨rfl, h3⟩, h4⟩
  clear hu
  replace kk := kk.below hb1 kk.lt
  replace hB := hB.trans (hb1.mono hB.size)
  clear hb1
  obtain ⟨E, hE⟩ : ∃ E, Hid (E = tkE b) := ⟨_, Lib.hid rfl⟩
  rw [← hE.out] at S
  refine qMv (fun a S => ?_)
  refine sx1 9 S (.int .u8 K) (wantN rfl _) rfl (fun _ => rfl) (fun ev ec e => by go_simp; try rfl) ?_; intro a S
  refine sx1 9 S (.slice A1 n1 c1) (wantN rfl _) rfl (fun _ => rfl) (fun ev ec e => by go_simp; try rfl) ?_; intro a S
  refine sx1 9 S (.int .i64 E) (wantN rfl _) rfl (fun _ => rfl) (fun ev ec e => by go_simp; try rfl) ?_; intro a S
  refine qAs (fun a S => ?_)
  refine qAs (fun a S => ?_)
  refine qAs (fun a S => ?_)
  replace S : Sx a 29 [(2, gv true (.pointer (some ⟨w0.heap.size, 0, none⟩))), (4, gv true (.int .u8 K)), (5, gv true (.slice A1 n1 c1)), (6, gv true (.int .i64 E))] := S.sub (allC rfl (allC rfl (allC rfl (allC rfl allN))))
  refine wpList_nil ?_
  show Code.wp _ _ _ _ _
  refine wp_seq (wp_seq (wp_region_lit ?_))
  refine qMv (fun a S => ?_)
  refine qNeq (fun a S => ?_)
  refine wpList_nil ?_
  show Code.wp _ _ _ _ _
  refine wp_cond_split (S.fx 16 _ rfl) (fun ht => ?_) (fun hf => ?_)
  · refine wp_seq (wp_region_lit ?_)
    refine sx0 S (.agg z24) (wantN rfl _) rfl (by decide) (fun _ => by go_simp; try rfl) ?_; intro a S
    refine qMv (fun a S => ?_)
    refine sxS (x := 2) (y := 17) S (w1.setRow w0.heap.size z24) rfl rfl (fun ev e e2 => run_store_row 31 _ _ rfl _ e z24 e2 31 z24 kk (by kernel_rfl) rfl (by simp [Value.oneCell'])) ?_; intro a S
    refine qAs (fun a S => ?_)
    refine wpList_nil ?_
    show Code.wp _ _ _ _ _
    refine wp_ret ?_
    first | (show bodyPost _ _ _ .ret a _) | (refine then_ret ?_; show bodyPost _ _ _ .ret a _)
    refine bodyPost_ret (results_row_slot rfl _ _ w0.heap.size 31 z24 (0, 0) _ (S.fx 2 _ rfl) (kk.setRow z24).row Try.underlying31 rfl (by kernel_rfl)) S.df ?_
    rw [show a.tmps.getD 3 undef = _ from S.fx 3 _ rfl]
    exact ⟨below_setRow hB (Nat.le_refl _) _, zeroO, E, rfl, ⟨⟨OwD.one _ _, OwD.one _ _, OwD.one _ _, OwD.one _ _⟩, World.ownsRow_nil _ _ _ _, World.ownsRow_nil _ _ _ _⟩, .inl ⟨by rw [← hE.out]; simpa using ht, hE.out, rfl⟩⟩
  · have h0 : tkE b = 0 := by rw [← hE.out]; simpa using hf
    obtain ⟨rfl, hn1, hc1, hA1, hR1⟩ := hK h0
    clear hK hf
    refine wp_skip ?_
    show Code.wp _ _ _ _ _
    refine wp_seq (wp_region_lit ?_)
    refine qMv (fun a S => ?_)
    refine qMv (fun a S => ?_)
    have e0 : ∀ z ∈ content b, z < 256 := fun z hz => hl z (List.mem_of_mem_drop (List.mem_of_mem_take hz))
    have I1 : OfI w1 A1 n1 c1 ((content b).map Int.ofNat) := ⟨by rw [List.length_map, hn1], fun z hz => (by obtain ⟨y, hy, rfl⟩ := List.mem_map.1 hz; have := e0 y hy; exact ⟨Int.natCast_nonneg y, by show (y : Int) < 256; omega⟩), by rw [hn1]; unfold content; rw [List.length_take]; omega, hc1, hA1, by rw [show u8s ((content b).map Int.ofNat) = bytes (content b) from by unfold u8s; rw [List.map_map]; rfl]; exact hR1⟩
    have hk : b.getD 2 0 < 256 := by
      have h9 := (tkE_ok h0).1
      rw [List.getD_eq_getElem?_getD, List.getElem?_eq_getElem (by omega)]
      exact hl _ (List.getElem_mem _)
    obtain ⟨kn, hkn⟩ : ∃ k, Hid (k = b.getD 2 0) := ⟨_, Lib.hid rfl⟩
    rw [← hkn.out] at S hk
    refine sxKA S 36 #[.int .u8 (kn : Int), .slice A1 n1 c1] (fun u w' => OfP (kn : Int) ((content b).map Int.ofNat) w1 (.returned u) w') (runG2 20 21 S rfl rfl (fun ev ec ef e e2 => by go_simp; try rfl)) ((rof10_any (kn : Int) ⟨by omega, by omega⟩ A1 n1 c1 _ w1 I1 (fun o w h1 h2 h3 => rcontent_any o h1 h2 w h3)).mono (fun en w' h => by obtain ⟨h1, om, b1, rfl, h2⟩ := h; exact ⟨_, rfl, h1, om, b1, rfl, h2⟩)) ?_
    intro a w2 u hu S
    obtain ⟨hb2, om, b1, hu, how, hgo⟩ := hu
    injection hu with hu
    subst hu
    have hs1 := kk.lt
    replace kk := kk.below hb2 kk.lt
    replace hB := hB.trans (hb2.mono hB.size)
    clear hb2 hR1 I1
    refine qMv (fun a S => ?_)
    refine sx1 19 S (.agg (mA om)) (wantN rfl _) rfl (fun _ => rfl) (fun ev ec e => by go_simp; try rfl) ?_; intro a S
    refine sx1 19 S (.bool b1) (wantN rfl _) rfl (fun _ => rfl) (fun ev ec e => by go_simp; try rfl) ?_; intro a S
    refine sxBox z24 S rfl (fun a w3 S k7 hb3 e3 => ?_)
    replace kk := kk.below hb3 kk.lt
    replace hB := hB.trans (hb3.mono hB.size)
    replace how := how.below hb3
    clear hb3 e3
    refine qAs (fun a S => ?_)
    refine wpList_nil ?_
    show Code.wp _ _ _ _ _
    refine wp_seq (wp_seq (wp_region_lit ?_))
    refine qMv (fun a S => ?_)
    refine qNot (fun a S => ?_)
    refine wpList_nil ?_
    show Code.wp _ _ _ _ _
    refine wp_cond_split (S.fx 26 _ rfl) (fun ht => ?_) (fun hf => ?_)
    · refine wp_seq (wp_region_lit ?_)
      refine sx0 S (.agg z24) (wantN rfl _) rfl (by decide) (fun _ => by go_simp; try rfl) ?_; intro a S
      refine sxS (x := 2) (y := 27) S (w3.setRow w0.heap.size z24) rfl rfl (fun ev e e2 => run_store_row 31 _ _ rfl _ e z24 e2 31 z24 kk (by kernel_rfl) rfl (by simp [Value.oneCell'])) ?_; intro a S
      refine sx0 S (.int .i64 41) (wantN rfl _) rfl (by decide) (fun _ => by go_simp; try rfl) ?_; intro a S
      refine wpList_nil ?_
      show Code.wp _ _ _ _ _
      refine wp_ret ?_
      first | (show bodyPost _ _ _ .ret a _) | (refine then_ret ?_; show bodyPost _ _ _ .ret a _)
      refine bodyPost_ret (results_row_slot rfl _ _ w0.heap.size 31 z24 (0, 0) _ (S.fx 2 _ rfl) (kk.setRow z24).row Try.underlying31 rfl (by kernel_rfl)) S.df ?_
      rw [show a.tmps.getD 3 undef = _ from S.fx 3 _ rfl]
      rcases hgo with ⟨h1, _⟩ | ⟨_, _, h3⟩
      · rw [h1] at ht; cases ht
      · exact ⟨below_setRow hB (Nat.le_refl _) _, zeroO, 41, rfl, ⟨⟨OwD.one _ _, OwD.one _ _, OwD.one _ _, OwD.one _ _⟩, World.ownsRow_nil _ _ _ _, World.ownsRow_nil _ _ _ _⟩, .inr ⟨h0, .inr ⟨rfl, rfl, by rw [← hkn.out]; exact h3⟩⟩⟩
    · refine wp_skip ?_
      show Code.wp _ _ _ _ _
      refine wp_seq (wp_region_lit ?_)
      refine sx1 7 S (.agg (mA om)) (wantN rfl _) rfl (fun _ => rfl) (fun ev ec e => run_load_row 31 _ rfl _ e (mA om) 31 _ k7 Try.underlying31 rfl (by kernel_rfl)) ?_; intro a S
      refine sxS (x := 2) (y := 28) S (w3.setRow w0.heap.size (mA om)) rfl rfl (fun ev e e2 => run_store_row 31 _ _ rfl _ e (mA om) e2 31 z24 kk (by kernel_rfl) rfl (by simp [Value.oneCell'])) ?_; intro a S
      refine sx0 S (.int .i64 0) (wantN rfl _) rfl (by decide) (fun _ => by go_simp; try rfl) ?_; intro a S
      refine wpList_nil ?_
      show Code.wp _ _ _ _ _
      refine wp_ret ?_
      first | (show bodyPost _ _ _ .ret a _) | (refine then_ret ?_; show bodyPost _ _ _ .ret a _)
      refine bodyPost_ret (results_row_slot rfl _ _ w0.heap.size 31 (mA om) (0, 0) _ (S.fx 2 _ rfl) (kk.setRow (mA om)).row Try.underlying31 rfl (by kernel_rfl)) S.df ?_
      rw [show a.tmps.getD 3 undef = _ from S.fx 3 _ rfl]
      rcases hgo with ⟨_, h2⟩ | ⟨h1, _, _⟩
      · exact ⟨below_setRow hB (Nat.le_refl _) _, om, 0, rfl, (OwL.setRow how hs1 _).base_le (by omega), .inr ⟨h0, .inl ⟨rfl, by rw [← hkn.out]; exact h2⟩⟩⟩
      · rw [h1] at hf; cases hf
end Go.Proofs.Ytjmhefkmpfkpbaa
