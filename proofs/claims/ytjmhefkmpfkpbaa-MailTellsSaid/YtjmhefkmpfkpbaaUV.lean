/- Mail: MailTells: the walk -/
import Derived.Test.YtjmhefkmpfkpbaaZUT
import Derived.Test.YtjmhefkmpfkpbaaUY
import Derived.Test.YtjmhefkmpfkpbaaZLL
namespace Go.Proofs.Ytjmhefkmpfkpbaa
open Go.ChangeShapes Go.WideShapes Go.ChangeAt Go.RowKit
set_option linter.unusedSimpArgs false
set_option linter.unusedVariables false
set_option maxRecDepth 100000
/-- What is written of a mail. -/
def WR (m : Ml) (E : Int) (L : List Nat) : Prop := (¬ okL m ∧ E = 100 ∧ L = []) ∨ (okL m ∧ E = 0 ∧ L = framed m.kd.toNat (byP m))
theorem wr_one {m : Ml} {E E2 : Int} {L L2 : List Nat} (h : WR m E L) (h2 : WR m E2 L2) : E = E2 ∧ L = L2 := by
  rcases h with ⟨h, rfl, rfl⟩ | ⟨h, rfl, rfl⟩ <;> rcases h2 with ⟨h2, rfl, rfl⟩ | ⟨h2, rfl, rfl⟩
  · exact ⟨rfl, rfl⟩
  · exact absurd h2 h
  · exact absurd h h2
  · exact ⟨rfl, rfl⟩
theorem wr_lt {m : Ml} {E : Int} {L : List Nat} (h : WR m E L) (hk : 0 ≤ m.kd ∧ m.kd < 256) : (∀ x ∈ L, x < 256) ∧ L.length ≤ 10000 := by
  rcases h with ⟨_, _, rfl⟩ | ⟨h, _, rfl⟩
  · exact ⟨fun x hx => (by cases hx), by decide⟩
  · have := conP_total h
    exact ⟨framed_lt (by omega) (by rw [byP_len]; omega) (byP_lt _), by rw [framed_len, byP_len]; omega⟩
theorem wr_of {m : Ml} {w w' : World} {en : Ending} (h : WrP m w en w') : ∃ v E L, en = .returned (.tuple #[v, .int .i64 E]) ∧ Owns w w' v L ∧ WR m E L ∧ Below w.heap.size w w' := by
  obtain ⟨hb, ⟨h1, h2⟩ | ⟨h1, v, h2, h3⟩⟩ := h
  · exact ⟨_, 100, [], h2, World.ownsRow_nil _ _ _ _, .inl ⟨h1, rfl, rfl⟩, hb⟩
  · exact ⟨v, 0, _, h2, h3, .inr ⟨h1, rfl, rfl⟩, hb⟩
/-- What is read of a text. -/
def RR (b : List Nat) (E : Int) (x : Ml) : Prop := (tkE b ≠ 0 ∧ E = tkE b ∧ x = zeroL) ∨ (tkE b = 0 ∧ ((E = 0 ∧ GoodM ((b.getD 2 0 : Nat) : Int) ((content b).map Int.ofNat) x) ∨ (E = 41 ∧ x = zeroL ∧ ∀ m, ¬ GoodM ((b.getD 2 0 : Nat) : Int) ((content b).map Int.ofNat) m)))
theorem rr_one {b : List Nat} {E E2 : Int} {x x2 : Ml} (h : RR b E x) (h2 : RR b E2 x2) : E = E2 ∧ x = x2 := by
  rcases h with ⟨h, rfl, rfl⟩ | ⟨h, ⟨rfl, hg⟩ | ⟨rfl, rfl, hg⟩⟩ <;> rcases h2 with ⟨h2, rfl, rfl⟩ | ⟨h2, ⟨rfl, hg2⟩ | ⟨rfl, rfl, hg2⟩⟩
  · exact ⟨rfl, rfl⟩
  · exact absurd h2 h
  · exact absurd h2 h
  · exact absurd h h2
  · exact ⟨rfl, good_one hg hg2⟩
  · exact absurd hg (hg2 _)
  · exact absurd h h2
  · exact absurd hg2 (hg _)
  · exact ⟨rfl, rfl⟩
theorem rr_sm {b : List Nat} {E : Int} {x : Ml} (h : RR b E x) : smL x := by
  rcases h with ⟨_, _, rfl⟩ | ⟨_, ⟨_, hg⟩ | ⟨_, rfl, _⟩⟩
  · exact zero_sm
  · exact ok_sm hg.2.2.1
  · exact zero_sm
theorem chk_one {m : Ml} {E E2 : Int} (h : (okL m ∧ E = 0) ∨ (¬ okL m ∧ E = 100)) (h2 : (okL m ∧ E2 = 0) ∨ (¬ okL m ∧ E2 = 100)) : E = E2 := by
  rcases h with ⟨h, rfl⟩ | ⟨h, rfl⟩ <;> rcases h2 with ⟨h2, rfl⟩ | ⟨h2, rfl⟩
  · rfl
  · exact absurd h h2
  · exact absurd h2 h
  · rfl
theorem RowW.low {w w' : World} {B U B2 U2 size n : Nat} {e : TypeId} {A : Option Addr} (h : RowW w B U e size A n) (hU : U ≤ B2) (f : FrU B2 U2 w w') : RowW w' B U e size A n := fun h0 => by
  obtain ⟨k, cur, h1, h2, h3, h4, h5⟩ := h h0
  exact ⟨k, cur, h1, h2, h3, f.blk h4 (.inl (by omega)), h5⟩
theorem bytes_oneq (l : List Nat) : ∀ u ∈ bytes l, u.oneCell' = true := by
  intro u hu
  obtain ⟨x, _, rfl⟩ := List.mem_map.1 hu
  rfl
set_option maxHeartbeats 64000000 in
theorem tells_walk (x0 y0 : MO) (la : ltL x0.x) (ka : 0 ≤ x0.x.kd ∧ x0.x.kd < 256) (Ab : Option Addr) (nb cb : Nat) (bl : List Nat) (hbn : bl.length = nb) (hbc : nb ≤ cb) (hbl : ∀ x ∈ bl, x < 256) (w0 : World) (ra : rdL w0 w0.heap.size x0) (rb : rdL w0 w0.heap.size y0) (rB : Reads w0 w0.heap.size 1 Ab nb (bytes bl)) :
    Calls Try.prog 4 #[aggL x0, aggL y0, .slice Ab nb cb] w0 fun en w' => en = .returned (.bool true) ∧ Below w0.heap.size w0 w' := by
  change Calls Try.prog 4 #[.agg (mA x0), .agg (mA y0), .slice Ab nb cb] w0 _
  go_enter Try.func4, Try.ntmps4
  refine wp_abs (l := [(0, gv true (.agg (mA x0))), (1, gv true (.agg (mA y0))), (2, gv true (.slice Ab nb cb))]) 132 rfl rfl (allC rfl (allC rfl (allC rfl allN))) ?_
  intro a S
  refine wp_seq (wp_region_lit ?_)
  refine sxW S (.pointer (some ⟨w0.heap.size, 0, none⟩)) (w0.alloc (.cells (mA x0) 31)) (wantN rfl _) (runG 0 S rfl rfl (fun ev ec ef e => by go_simp; try rfl)) ?_; intro a S
  have k3 := Blk.new w0 31 (mA x0)
  have gB := (Below.refl w0.heap.size w0).alloc (Nat.le_refl _) (.cells (mA x0) 31)
  have s1 := World.size_alloc w0 (.cells (mA x0) 31)
  obtain ⟨w1, hw⟩ : ∃ W, W = w0.alloc (.cells (mA x0) 31) := ⟨_, rfl⟩
  rw [← hw] at k3 gB s1 ⊢
  clear hw
  refine sxW S (.pointer (some ⟨w1.heap.size, 0, none⟩)) (w1.alloc (.cells (mA y0) 31)) (wantN rfl _) (runG 1 S rfl rfl (fun ev ec ef e => by go_simp; try rfl)) ?_; intro a S
  have k4 := Blk.new w1 31 (mA y0)
  have hb := (Below.refl w1.heap.size w1).alloc (Nat.le_refl _) (.cells (mA y0) 31)
  obtain ⟨w, hw⟩ : ∃ W, W = w1.alloc (.cells (mA y0) 31) := ⟨_, rfl⟩
  rw [← hw] at k4 hb ⊢
  clear hw
  replace k3 := k3.below hb k3.lt
  replace gB := gB.trans (hb.mono gB.size)
  clear hb
  rw [s1] at k4 S
  clear s1
  refine sx0 S (.bool false) (wantN rfl _) rfl (by decide) (fun _ => by go_simp; try rfl) ?_; intro a S
  refine wpList_nil ?_
  show Code.wp _ _ _ _ _
  replace ra := ra.below gB gB.size
  replace rb := rb.below gB gB.size
  replace rB := (rB.below gB).more gB.size
  obtain ⟨Q1, hQ1⟩ : ∃ q, grL x0.x = q := ⟨_, rfl⟩
  obtain ⟨Q2, hQ2⟩ : ∃ q, grL y0.x = q := ⟨_, rfl⟩
  refine wp_seq (wp_seq (wp_region_lit ?_))
  refine sx1 3 S (.agg (mA x0)) (wantN rfl _) rfl (fun _ => rfl) (fun ev ec e => run_load_row 31 _ rfl _ e (mA x0) 31 _ k3 Try.underlying31 rfl (by kernel_rfl)) ?_; intro a S
  refine sxC 21 S 9 (.bool Q1) (wantN rfl _) rfl (fun _ => rfl) (fun ev ef e => by go_simp; try rfl) (lgreat_any x0 w Q1 hQ1) ?_; intro a w1 hb S
  replace k3 := k3.below hb k3.lt
  replace k4 := k4.below hb k4.lt
  replace gB := gB.trans (hb.mono gB.size)
  replace ra := ra.below hb hb.size
  replace rb := rb.below hb hb.size
  replace rB := (rB.below hb).more hb.size
  clear hb
  refine qMv (fun a S => ?_)
  refine sx1 4 S (.agg (mA y0)) (wG S rfl rfl (by decide) rfl) rfl (fun _ => rfl) (fun ev ec e => run_load_row 31 _ rfl _ e (mA y0) 31 _ k4 Try.underlying31 rfl (by kernel_rfl)) ?_; intro a S
  refine sxC 24 S 9 (.bool Q2) (wG S rfl rfl (by decide) rfl) rfl id (fun ev ef e => by go_simp; try rfl) (lgreat_any y0 w1 Q2 hQ2) ?_; intro a w hb S
  replace k3 := k3.below hb k3.lt
  replace k4 := k4.below hb k4.lt
  replace gB := gB.trans (hb.mono gB.size)
  replace ra := ra.below hb hb.size
  replace rb := rb.below hb hb.size
  replace rB := (rB.below hb).more hb.size
  clear hb
  refine qOr (fun a S => ?_)
  refine qMv (fun a S => ?_)
  refine qMv (fun a S => ?_)
  refine qLen (fun a S => ?_)
  refine qGtr (fun a S => ?_)
  refine qOr (fun a S => ?_)
  refine wpList_nil ?_
  show Code.wp _ _ _ _ _
  refine wp_cond_split (S.fx 31 _ rfl) (fun ht => ?_) (fun hf => ?_)
  · refine wp_seq (wp_region_lit ?_)
    refine sx0 S (.bool true) (wantN rfl _) rfl (by decide) (fun _ => by go_simp; try rfl) ?_; intro a S
    refine wpList_nil ?_
    show Code.wp _ _ _ _ _
    refine wp_ret ?_
    first | (show bodyPost _ _ _ .ret a _) | (refine then_ret ?_; show bodyPost _ _ _ .ret a _)
    refine bodyPost_ret (v := .bool true) ?_ S.df ⟨rfl, gB⟩
    exact (results_tmp rfl _ _ _).trans (by rw [show a.tmps.getD 6 undef = _ from S.fx 6 _ rfl]; rfl)
  refine wp_skip ?_
  show Code.wp _ _ _ _ _
  obtain ⟨⟨rfl, rfl⟩, hn1⟩ : (Q1 = false ∧ Q2 = false) ∧ nb ≤ 1000 := by
    simp only [Bool.or_eq_false_iff, decide_eq_false_iff_not] at hf
    exact ⟨hf.1, by have := hf.2; omega⟩
  have sx := grL_sm hQ1
  have sy := grL_sm hQ2
  clear hQ1 hQ2 hf
  replace S : Sx a 132 [(3, gv true (.pointer (some ⟨w0.heap.size, 0, none⟩))), (4, gv true (.pointer (some ⟨w0.heap.size + 1, 0, none⟩))), (2, gv true (.slice Ab nb cb))] := S.sub (allC rfl (allC rfl (allC rfl allN)))
  refine wp_seq (wp_region_lit ?_)
  refine sx1 3 S (.agg (mA x0)) (wantN rfl _) rfl (fun _ => rfl) (fun ev ec e => run_load_row 31 _ rfl _ e (mA x0) 31 _ k3 Try.underlying31 rfl (by kernel_rfl)) ?_; intro a S
  refine sxKA S 12 #[aggL x0] (fun u w' => ∃ r : MO, u = aggL r ∧ r.x = x0.x ∧ OwL w' w.heap.size r ∧ Below w.heap.size w w') (runG 32 S rfl rfl (fun ev ec ef e => by go_simp; try rfl)) ((rltwin_any x0 sx w ra).mono (fun en w' ⟨r, h1, h2, h3, h4⟩ => ⟨_, h2, r, rfl, h1, h3, h4⟩)) ?_
  rintro a w1 u ⟨r, rfl, hrx, how, hb⟩ S
  replace k3 := k3.below hb k3.lt
  replace k4 := k4.below hb k4.lt
  replace gB := gB.trans (hb.mono gB.size)
  replace ra := ra.below hb hb.size
  replace rb := rb.below hb hb.size
  replace rB := (rB.below hb).more hb.size
  clear hb
  have rr := OwL.rd how
  clear how
  refine sxW S (.slice (some ⟨w1.heap.size, 0, none⟩) 0 0) (w1.alloc (.cells #[] 5)) (wantN rfl _) (by go_simp; try rfl) ?_; intro a S
  have hown0 : (w1.alloc (.cells #[] 5)).ownsRow w1.heap.size 5 1 (.slice (some ⟨w1.heap.size, 0, none⟩) 0 0) 0 [] := ⟨by simp, .inr ⟨w1.heap.size, 0, #[], rfl, Nat.le_refl _, heap_alloc_new w1 _, Nat.le_refl _, Nat.zero_le _, by simp, by simp⟩⟩
  have hb := (Below.refl w1.heap.size w1).alloc (Nat.le_refl _) (.cells #[] 5)
  have hw1 : w1.heap.size ≤ (w1.alloc (.cells #[] 5)).heap.size := hb.size
  have sw1 := gB.size
  obtain ⟨w2, hw⟩ : ∃ W, W = w1.alloc (.cells #[] 5) := ⟨_, rfl⟩
  rw [← hw] at hown0 hb hw1 ⊢
  clear hw
  refine qMv (fun a S => ?_)
  obtain ⟨i0, hi0, hz0, hz1, hz2⟩ := info_parts infoU8q
  have rB2 := (rB.below hb).more hb.size
  refine wpList_append_any _ rfl (.tmp 34) (.tmp 35) 34 rfl w1.heap.size 5 i0 _ 1 1 Try.underlying34 hi0 hz0 hz1 hz2 rfl (by omega) (.slice (some ⟨w1.heap.size, 0, none⟩) 0 0) 0 [] (S.fx 34 _ rfl) hown0 w2.heap.size Ab nb cb (bytes bl) (S.fx 35 _ rfl) rB2 (bytes_oneq _) (by unfold maxLen; omega) (by omega) hw1 ?_
  intro v8 w ho8 hg8 _
  have S : Sx _ 132 ((36, gv true v8) :: _) := S.put v8 (by decide)
  rw [Nat.zero_add, List.nil_append] at ho8
  obtain ⟨A8, c8, rfl, hc8, rt⟩ := own_slice ho8
  replace hb := hb.grown hg8 (by omega) (fun k hk => by simp [Value.ownBlock] at hk; omega)
  clear hg8 hown0 hw1 rB2
  replace k3 := k3.below hb k3.lt
  replace k4 := k4.below hb k4.lt
  replace gB := gB.trans (hb.mono gB.size)
  replace ra := ra.below hb hb.size
  replace rb := rb.below hb hb.size
  replace rB := (rB.below hb).more hb.size
  replace rr := rr.below hb hb.size
  clear hb
  refine sxBox z24 S rfl (fun a w1 S k7 hb e3 => ?_)
  replace k3 := k3.below hb k3.lt
  replace k4 := k4.below hb k4.lt
  replace gB := gB.trans (hb.mono gB.size)
  replace ra := ra.below hb hb.size
  replace rb := rb.below hb hb.size
  replace rB := (rB.below hb).more hb.size
  replace rr := rr.below hb hb.size
  replace rt := (rt.below hb).more hb.size
  clear hb e3 ho8
  obtain ⟨g7, hg7⟩ : ∃ g, Hid (g = w.heap.size) := ⟨_, Lib.hid rfl⟩
  rw [← hg7.out] at k7 S
  refine qAs (fun a S => ?_)
  replace S : Sx a 132 [(8, gv true (.slice A8 nb c8)), (7, gv true (.pointer (some ⟨g7, 0, none⟩))), (3, gv true (.pointer (some ⟨w0.heap.size, 0, none⟩))), (4, gv true (.pointer (some ⟨w0.heap.size + 1, 0, none⟩))), (2, gv true (.slice Ab nb cb))] := S.sub (allC rfl (allC rfl (allC rfl (allC rfl (allC rfl allN)))))
  refine wpList_nil ?_
  show Code.wp _ _ _ _ _
  obtain ⟨w4, hw4⟩ : ∃ w4, w4 = w1 := ⟨_, rfl⟩
  rw [← hw4] at k3 k4 k7 ra rb rr rB rt gB ⊢
  clear hw4
  have sr : smL r.x := by rw [hrx]; exact sx
  have lr : ltL r.x := by rw [hrx]; exact la
  have kr : 0 ≤ r.x.kd ∧ r.x.kd < 256 := by rw [hrx]; exact ka
  have G4 := Below.refl w4.heap.size w4
  refine wp_seq (wp_region_lit ?_)
  refine sx1 7 S (.agg (mA r)) (wantN rfl _) rfl (fun _ => rfl) (fun ev ec e => run_load_row 31 _ rfl _ e (mA r) 31 _ k7 Try.underlying31 rfl (by kernel_rfl)) ?_; intro a S
  refine sxKA S 10 #[aggL r] (fun u w' => ∃ v E L, u = .tuple #[v, .int .i64 E] ∧ Owns w4 w' v L ∧ WR r.x E L ∧ Below w4.heap.size w4 w') (runG 38 S rfl rfl (fun ev ec ef e => by go_simp; try rfl)) ((write_any r sr lr kr w4 rr).mono (fun en w' h => by obtain ⟨v, E, L, h1, h2⟩ := wr_of h; exact ⟨_, h1, v, E, L, rfl, h2⟩)) ?_
  rintro a w1 u ⟨v9, E, Lx, rfl, ho9, hwr, hb⟩ S
  replace G4 := G4.trans (hb.mono G4.size)
  clear hb
  obtain ⟨A9, c9, rfl, _, rx⟩ := own_slice ho9
  have hx := RowW.of_own (by decide) ho9
  obtain ⟨U9, hU9⟩ : ∃ u, u = w1.heap.size := ⟨_, rfl⟩
  have hU : U9 ≤ w1.heap.size := by omega
  rw [← hU9] at hx
  clear hU9 ho9
  refine qMv (fun a S => ?_)
  refine sx1 37 S (.slice A9 Lx.length c9) (wantN rfl _) rfl (fun _ => rfl) (fun ev ec e => by go_simp; try rfl) ?_; intro a S
  refine sx1 37 S (.int .i64 E) (wantN rfl _) rfl (fun _ => rfl) (fun ev ec e => by go_simp; try rfl) ?_; intro a S
  refine qAs (fun a S => ?_)
  refine qAs (fun a S => ?_)
  replace S : Sx a 132 [(10, gv true (.int .i64 E)), (9, gv true (.slice A9 Lx.length c9)), (8, gv true (.slice A8 nb c8)), (7, gv true (.pointer (some ⟨g7, 0, none⟩))), (3, gv true (.pointer (some ⟨w0.heap.size, 0, none⟩))), (4, gv true (.pointer (some ⟨w0.heap.size + 1, 0, none⟩))), (2, gv true (.slice Ab nb cb))] := S.sub (allC rfl (allC rfl (allC rfl (allC rfl (allC rfl (allC rfl (allC rfl allN)))))))
  refine wpList_nil ?_
  show Code.wp _ _ _ _ _
  refine wp_seq (wp_region_lit ?_)
  refine sx1 3 S (.agg (mA x0)) (wantN rfl _) rfl (fun _ => rfl) (fun ev ec e => run_load_row 31 _ rfl _ e (mA x0) 31 _ (k3.below G4 k3.lt) Try.underlying31 rfl (by kernel_rfl)) ?_; intro a S
  refine sxKA S 13 #[aggL x0] (fun u w' => ∃ v E L, u = .tuple #[v, .int .i64 E] ∧ Owns w1 w' v L ∧ WR x0.x E L ∧ Below w1.heap.size w1 w') (runG 43 S rfl rfl (fun ev ec ef e => by go_simp; try rfl)) ((rwrite_any x0 sx la w1 (ra.below G4 G4.size)).mono (fun en w' h => by obtain ⟨v, E, L, h1, h2⟩ := wr_of h; exact ⟨_, h1, v, E, L, rfl, h2⟩)) ?_
  rintro a w u ⟨v11, E2, Ly, rfl, ho11, hwr2, hb⟩ S
  replace G4 := G4.trans (hb.mono G4.size)
  replace rx := (rx.below hb).more hb.size
  replace hx := hx.below hb
  have hU := Nat.le_trans hU hb.size
  clear hb
  obtain ⟨rfl, rfl⟩ : E = E2 ∧ Lx = Ly := by rw [hrx] at hwr; exact wr_one hwr hwr2
  clear hwr2
  obtain ⟨A11, c11, rfl, _, ry⟩ := own_slice ho11
  clear ho11
  refine qMv (fun a S => ?_)
  refine sx1 42 S (.slice A11 Lx.length c11) (wantN rfl _) rfl (fun _ => rfl) (fun ev ec e => by go_simp; try rfl) ?_; intro a S
  refine sx1 42 S (.int .i64 E) (wantN rfl _) rfl (fun _ => rfl) (fun ev ec e => by go_simp; try rfl) ?_; intro a S
  refine qAs (fun a S => ?_)
  refine qAs (fun a S => ?_)
  replace S : Sx a 132 [(12, gv true (.int .i64 E)), (11, gv true (.slice A11 Lx.length c11)), (10, gv true (.int .i64 E)), (9, gv true (.slice A9 Lx.length c9)), (8, gv true (.slice A8 nb c8)), (7, gv true (.pointer (some ⟨g7, 0, none⟩))), (3, gv true (.pointer (some ⟨w0.heap.size, 0, none⟩))), (4, gv true (.pointer (some ⟨w0.heap.size + 1, 0, none⟩))), (2, gv true (.slice Ab nb cb))] := S.sub (allC rfl (allC rfl (allC rfl (allC rfl (allC rfl (allC rfl (allC rfl (allC rfl (allC rfl allN)))))))))
  refine wpList_nil ?_
  show Code.wp _ _ _ _ _
  obtain ⟨LL, hLm⟩ := wr_lt hwr kr
  clear hwr
  refine wp_seq (wp_region_lit ?_)
  refine qMv (fun a S => ?_)
  skip
  refine sxKA S 14 #[.slice A8 nb c8] (fun u w' => ∃ om F, u = .tuple #[aggL om, .int .i64 F] ∧ OwL w' w.heap.size om ∧ RR bl F om.x ∧ Below w.heap.size w w') (runG 48 S rfl rfl (fun ev ec ef e => by go_simp; try rfl)) ((read_any A8 nb c8 bl hbn (by omega) hc8 hbl w ((rt.below G4).more G4.size)).mono (fun en w' h => by obtain ⟨h0, om, F, h1, h2, h3⟩ := h; exact ⟨_, h1, om, F, rfl, h2, h3, h0⟩)) ?_
  rintro a w1 u ⟨p, F, rfl, owp, hrp, hb⟩ S
  have hUp : U9 ≤ w.heap.size := hU
  obtain ⟨Bp, hBp⟩ : ∃ x, x = w.heap.size := ⟨_, rfl⟩
  have hsp := SpW.of_own owp
  rw [← hBp] at hsp hUp
  have hB4 : w4.heap.size ≤ Bp := by rw [hBp]; exact G4.size
  obtain ⟨Up, hUq⟩ : ∃ x, x = w1.heap.size := ⟨_, rfl⟩
  rw [← hUq] at hsp
  have hUp1 : Up ≤ w1.heap.size := by omega
  have hBU : Bp ≤ Up := by have := hb.size; omega
  clear hBp hUq
  replace G4 := G4.trans (hb.mono G4.size)
  replace rx := (rx.below hb).more hb.size
  replace hx := hx.below hb
  replace ry := (ry.below hb).more hb.size
  clear hb
  have rp := OwL.rd owp
  clear owp
  refine qMv (fun a S => ?_)
  refine sx1 47 S (.agg (mA p)) (wantN rfl _) rfl (fun _ => rfl) (fun ev ec e => by go_simp; try rfl) ?_; intro a S
  refine sx1 47 S (.int .i64 F) (wantN rfl _) rfl (fun _ => rfl) (fun ev ec e => by go_simp; try rfl) ?_; intro a S
  refine sxBox z24 S rfl (fun a w S k13 hb e3 => ?_)
  replace G4 := G4.trans (hb.mono G4.size)
  replace rx := (rx.below hb).more hb.size
  replace hx := hx.below hb
  replace ry := (ry.below hb).more hb.size
  replace rp := rp.below hb hb.size
  replace hsp := hsp.below hb
  have hUp1 := Nat.le_trans hUp1 hb.size
  clear hb e3
  obtain ⟨g13, hg13⟩ : ∃ g, g = w1.heap.size := ⟨_, rfl⟩
  rw [← hg13] at k13 S
  have hgU13 : Up ≤ g13 := by omega
  clear hg13
  refine qAs (fun a S => ?_)
  replace S : Sx a 132 [(14, gv true (.int .i64 F)), (13, gv true (.pointer (some ⟨g13, 0, none⟩))), (12, gv true (.int .i64 E)), (11, gv true (.slice A11 Lx.length c11)), (10, gv true (.int .i64 E)), (9, gv true (.slice A9 Lx.length c9)), (8, gv true (.slice A8 nb c8)), (7, gv true (.pointer (some ⟨g7, 0, none⟩))), (3, gv true (.pointer (some ⟨w0.heap.size, 0, none⟩))), (4, gv true (.pointer (some ⟨w0.heap.size + 1, 0, none⟩))), (2, gv true (.slice Ab nb cb))] := S.sub (allC rfl (allC rfl (allC rfl (allC rfl (allC rfl (allC rfl (allC rfl (allC rfl (allC rfl (allC rfl (allC rfl allN)))))))))))
  refine wpList_nil ?_
  show Code.wp _ _ _ _ _
  refine wp_seq (wp_region_lit ?_)
  refine qMv (fun a S => ?_)
  skip
  refine sxKA S 15 #[.slice Ab nb cb] (fun u w' => ∃ om F, u = .tuple #[aggL om, .int .i64 F] ∧ OwL w' w.heap.size om ∧ RR bl F om.x ∧ Below w.heap.size w w') (runG 53 S rfl rfl (fun ev ec ef e => by go_simp; try rfl)) ((rread_any Ab nb cb bl hbn (by omega) hbc hbl w ((rB.below G4).more G4.size)).mono (fun en w' h => by obtain ⟨h0, om, F, h1, h2, h3⟩ := h; exact ⟨_, h1, om, F, rfl, h2, h3, h0⟩)) ?_
  rintro a w1 u ⟨q, F2, rfl, owq, hrq, hb⟩ S
  replace G4 := G4.trans (hb.mono G4.size)
  replace rx := (rx.below hb).more hb.size
  replace hx := hx.below hb
  replace ry := (ry.below hb).more hb.size
  replace rp := rp.below hb hb.size
  replace hsp := hsp.below hb
  replace k13 := k13.below hb k13.lt
  have hUp1 := Nat.le_trans hUp1 hb.size
  clear hb
  have rq := OwL.rd owq
  clear owq
  refine qMv (fun a S => ?_)
  refine sx1 52 S (.agg (mA q)) (wantN rfl _) rfl (fun _ => rfl) (fun ev ec e => by go_simp; try rfl) ?_; intro a S
  refine sx1 52 S (.int .i64 F2) (wantN rfl _) rfl (fun _ => rfl) (fun ev ec e => by go_simp; try rfl) ?_; intro a S
  refine sxBox z24 S rfl (fun a w S k15 hb e3 => ?_)
  replace G4 := G4.trans (hb.mono G4.size)
  replace rx := (rx.below hb).more hb.size
  replace hx := hx.below hb
  replace ry := (ry.below hb).more hb.size
  replace rp := rp.below hb hb.size
  replace hsp := hsp.below hb
  replace k13 := k13.below hb k13.lt
  replace rq := rq.below hb hb.size
  have hUp1 := Nat.le_trans hUp1 hb.size
  clear hb e3
  obtain ⟨g15, hg15⟩ : ∃ g, g = w1.heap.size := ⟨_, rfl⟩
  rw [← hg15] at k15 S
  have hgU15 : Up ≤ g15 := by omega
  clear hg15
  refine qAs (fun a S => ?_)
  obtain ⟨rfl, hpq⟩ := rr_one hrp hrq
  have sp := rr_sm hrp
  have sq := rr_sm hrq
  clear hrp hrq
  replace S : Sx a 132 [(16, gv true (.int .i64 F)), (15, gv true (.pointer (some ⟨g15, 0, none⟩))), (14, gv true (.int .i64 F)), (13, gv true (.pointer (some ⟨g13, 0, none⟩))), (12, gv true (.int .i64 E)), (11, gv true (.slice A11 Lx.length c11)), (10, gv true (.int .i64 E)), (9, gv true (.slice A9 Lx.length c9)), (8, gv true (.slice A8 nb c8)), (7, gv true (.pointer (some ⟨g7, 0, none⟩))), (3, gv true (.pointer (some ⟨w0.heap.size, 0, none⟩))), (4, gv true (.pointer (some ⟨w0.heap.size + 1, 0, none⟩))), (2, gv true (.slice Ab nb cb))] := S.sub (allC rfl (allC rfl (allC rfl (allC rfl (allC rfl (allC rfl (allC rfl (allC rfl (allC rfl (allC rfl (allC rfl (allC rfl (allC rfl allN)))))))))))))
  refine wpList_nil ?_
  show Code.wp _ _ _ _ _
  refine wp_seq (wp_region_lit ?_)
  refine sx1 7 S (.agg (mA r)) (wantN rfl _) rfl (fun _ => rfl) (fun ev ec e => run_load_row 31 _ rfl _ e (mA r) 31 _ (k7.below G4 k7.lt) Try.underlying31 rfl (by kernel_rfl)) ?_; intro a S
  refine sxKA S 16 #[aggL r] (fun u w' => ∃ t : MO, u = aggL t ∧ t.x = r.x ∧ OwL w' w.heap.size t ∧ Below w.heap.size w w') (runG 57 S rfl rfl (fun ev ec ef e => by go_simp; try rfl)) ((mltwin_any r sr w (rr.below G4 G4.size)).mono (fun en w' ⟨t, h1, h2, h3, h4⟩ => ⟨_, h2, t, rfl, h1, h3, h4⟩)) ?_
  rintro a w1 u ⟨t, rfl, htx, owt, hb⟩ S
  have hst := SpW.of_own owt
  obtain ⟨Bt, hBt⟩ : ∃ x, x = w.heap.size := ⟨_, rfl⟩
  have hUt : Up ≤ Bt := by omega
  rw [← hBt] at hst
  obtain ⟨Ut, hUt2⟩ : ∃ x, x = w1.heap.size := ⟨_, rfl⟩
  have hUt3 : Ut ≤ w1.heap.size := by omega
  have hBt4 : w4.heap.size ≤ Bt := by omega
  rw [← hUt2] at hst
  have hBtU : Bt ≤ Ut := by have := hb.size; omega
  clear hBt hUt2
  replace G4 := G4.trans (hb.mono G4.size)
  replace rx := (rx.below hb).more hb.size
  replace hx := hx.below hb
  replace ry := (ry.below hb).more hb.size
  replace rp := rp.below hb hb.size
  replace hsp := hsp.below hb
  replace k13 := k13.below hb k13.lt
  replace rq := rq.below hb hb.size
  replace k15 := k15.below hb k15.lt
  clear hb
  have rtt := OwL.rd owt
  clear owt
  refine sxBox z24 S rfl (fun a w S k17 hb e3 => ?_)
  replace G4 := G4.trans (hb.mono G4.size)
  replace rx := (rx.below hb).more hb.size
  replace hx := hx.below hb
  replace ry := (ry.below hb).more hb.size
  replace rp := rp.below hb hb.size
  replace hsp := hsp.below hb
  replace k13 := k13.below hb k13.lt
  replace rq := rq.below hb hb.size
  replace k15 := k15.below hb k15.lt
  replace rtt := rtt.below hb hb.size
  replace hst := hst.below hb
  have hgU17 := hUt3
  replace hUt3 := Nat.le_trans hUt3 hb.size
  clear hb e3
  obtain ⟨g17, hg17⟩ : ∃ g, g = w1.heap.size := ⟨_, rfl⟩
  rw [← hg17] at k17 S hgU17
  clear hg17
  replace S : Sx a 132 [(17, gv true (.pointer (some ⟨g17, 0, none⟩))), (16, gv true (.int .i64 F)), (15, gv true (.pointer (some ⟨g15, 0, none⟩))), (14, gv true (.int .i64 F)), (13, gv true (.pointer (some ⟨g13, 0, none⟩))), (12, gv true (.int .i64 E)), (11, gv true (.slice A11 Lx.length c11)), (10, gv true (.int .i64 E)), (9, gv true (.slice A9 Lx.length c9)), (8, gv true (.slice A8 nb c8)), (7, gv true (.pointer (some ⟨g7, 0, none⟩))), (3, gv true (.pointer (some ⟨w0.heap.size, 0, none⟩))), (4, gv true (.pointer (some ⟨w0.heap.size + 1, 0, none⟩))), (2, gv true (.slice Ab nb cb))] := S.sub (allC rfl (allC rfl (allC rfl (allC rfl (allC rfl (allC rfl (allC rfl (allC rfl (allC rfl (allC rfl (allC rfl (allC rfl (allC rfl (allC rfl allN))))))))))))))
  refine wpList_nil ?_
  show Code.wp _ _ _ _ _
  have st : smL t.x := by rw [htx]; exact sr
  have e5 : p.x = q.x := hpq
  obtain ⟨wa, hwa⟩ : ∃ W, W = w := ⟨_, rfl⟩
  skip
  refine wp_join (fun a w' => Sx a 132 [(18, gv true (.bool true)), (17, gv true (.pointer (some ⟨g17, 0, none⟩))), (16, gv true (.int .i64 F)), (15, gv true (.pointer (some ⟨g15, 0, none⟩))), (14, gv true (.int .i64 F)), (13, gv true (.pointer (some ⟨g13, 0, none⟩))), (12, gv true (.int .i64 E)), (11, gv true (.slice A11 Lx.length c11)), (10, gv true (.int .i64 E)), (9, gv true (.slice A9 Lx.length c9)), (8, gv true (.slice A8 nb c8)), (7, gv true (.pointer (some ⟨g7, 0, none⟩))), (3, gv true (.pointer (some ⟨w0.heap.size, 0, none⟩))), (4, gv true (.pointer (some ⟨w0.heap.size + 1, 0, none⟩))), (2, gv true (.slice Ab nb cb))] ∧ Below w.heap.size w w') ?_ (fun a w1 ⟨S, hb⟩ => ?_)
  · refine wp_region_noPanic ?_
    refine wp_region_held_drew (S := fun w' => Below w.heap.size w w') (by kernel_rfl) (Below.drew (Below.refl _ _)) (fun HS => ?_)
    obtain ⟨w8, hw8⟩ : ∃ W, W = w.drew := ⟨_, rfl⟩
    rw [← hw8] at HS ⊢
    clear hw8
    have j3 := (k3.below G4 k3.lt)
    have j4 := (k4.below G4 k4.lt)
    have j7 := (k7.below G4 k7.lt)
    have cx : ∀ w', Below w.heap.size w w' → (convert 34 9 (.slice A9 Lx.length c9)).run Try.prog w' = .ok (.string (strOf Lx)) w' := fun w' hw => conv_str rfl LL (rx.below hw)
    have cy : ∀ w', Below w.heap.size w w' → (convert 34 9 (.slice A11 Lx.length c11)).run Try.prog w' = .ok (.string (strOf Lx)) w' := fun w' hw => conv_str rfl LL (ry.below hw)
    have inj : ((strOf Lx).toList == (strOf Lx).toList) = true := by simp
    refine hx1 7 S (.agg (mA r)) (i := 0) rfl rfl (fun w' hw ev ec e => run_load_row 31 _ rfl _ e (mA r) 31 _ (j7.below hw j7.lt) Try.underlying31 rfl (by kernel_rfl)) HS ?_ (by kernel_rfl) (by kernel_rfl) (by kernel_rfl)
    intro a S
    refine hx1 3 S (.agg (mA x0)) (i := 2) rfl rfl (fun w' hw ev ec e => run_load_row 31 _ rfl _ e (mA x0) 31 _ (j3.below hw j3.lt) Try.underlying31 rfl (by kernel_rfl)) HS ?_ (by kernel_rfl) (by kernel_rfl) (by kernel_rfl)
    intro a S
    refine wpAnyH_ready (rs := [1]) (by kernel_rfl) (by simp) (AllReadyH.cons rfl ?_ AllReadyH.nil)
    refine hKG (fun z : Int => .int .i64 z) 0 S 17 #[aggL r] (fun z w' => ((okL r.x ∧ z = 0) ∨ (¬ okL r.x ∧ z = 100)) ∧ Below w8.heap.size w8 w') (wantN rfl _) HS (fun _ => runG 59 S rfl rfl (fun ev ec ef e => by go_simp; try rfl)) (fun _ => (check_any r sr w8 ((rr.below G4 G4.size).below HS HS.size)).mono (fun en w' ⟨E, h1, h2, h3⟩ => ⟨E, h1, h2, h3⟩)) (fun _ w' hh => Below.trans HS (hh.2.mono HS.size)) ?_
    intro a w9 z1 hz1 HS S
    replace hz1 := (hz1 rfl).1
    refine wpAnyH_ready (rs := [3]) (by kernel_rfl) (by simp) (AllReadyH.cons rfl ?_ AllReadyH.nil)
    refine hKG (fun z : Int => .int .i64 z) 0 S 18 #[aggL x0] (fun z w' => ((okL x0.x ∧ z = 0) ∨ (¬ okL x0.x ∧ z = 100)) ∧ Below w9.heap.size w9 w') (wantN rfl _) HS (fun _ => runG 61 S rfl rfl (fun ev ec ef e => by go_simp; try rfl)) (fun _ => (rcheck10 x0 sx w9 ((ra.below G4 G4.size).below HS HS.size)).mono (fun en w' ⟨E, h1, h2, h3⟩ => ⟨E, h1, h2, h3⟩)) (fun _ w' hh => Below.trans HS (hh.2.mono HS.size)) ?_
    intro a w10 z2 hz2 HS S
    replace hz2 := (hz2 rfl).1
    obtain rfl : z1 = z2 := by rw [hrx] at hz1; exact chk_one hz1 hz2
    clear hz1 hz2
    refine hx2 60 62 S (.bool true) (i := 4) rfl rfl rfl rfl (fun w' hw ev ec e e2 => by go_simp; try simp) HS ?_ (by kernel_rfl) (by kernel_rfl) (by kernel_rfl)
    intro a S
    refine hx1 63 S (.bool true) (i := 5) rfl rfl (fun w' hw ev ec e => by go_simp; try rfl) HS ?_ (by kernel_rfl) (by kernel_rfl) (by kernel_rfl)
    intro a S
    refine hxG 9 S (.slice A9 Lx.length c9) (i := 6) rfl (wG S rfl rfl (by decide) rfl) rfl (fun _ => rfl) (fun w' hw ev ec e => by go_simp; try rfl) HS ?_ (by kernel_rfl) (by kernel_rfl) (by kernel_rfl)
    intro a S
    refine hxG 65 S (.string (strOf Lx)) (i := 7) rfl (wG S rfl rfl (by decide) rfl) rfl (fun _ => rfl) (fun w' hw ev ec e => by have hc := cx w' hw; go_simp; try rfl) HS ?_ (by kernel_rfl) (by kernel_rfl) (by kernel_rfl)
    intro a S
    refine hxG 11 S (.slice A11 Lx.length c11) (i := 8) rfl (wG S rfl rfl (by decide) rfl) rfl (fun _ => rfl) (fun w' hw ev ec e => by go_simp; try rfl) HS ?_ (by kernel_rfl) (by kernel_rfl) (by kernel_rfl)
    intro a S
    refine hxG 67 S (.string (strOf Lx)) (i := 9) rfl (wG S rfl rfl (by decide) rfl) rfl (fun _ => rfl) (fun w' hw ev ec e => by have hc := cy w' hw; go_simp; try rfl) HS ?_ (by kernel_rfl) (by kernel_rfl) (by kernel_rfl)
    intro a S
    refine hxG2 66 68 S (.bool true) (i := 10) rfl (wG S rfl rfl (by decide) rfl) rfl rfl (fun _ => rfl) (fun _ => rfl) (fun w' hw ev ec e e2 => by go_simp; try simp) HS ?_ (by kernel_rfl) (by kernel_rfl) (by kernel_rfl)
    intro a S
    refine hxAnd (i := 11) S rfl rfl rfl (fun _ => rfl) HS ?_ (by kernel_rfl) (by kernel_rfl) (by kernel_rfl)
    intro a S
    refine hx1 70 S (.bool true) (i := 12) rfl rfl (fun w' hw ev ec e => by go_simp; try rfl) HS ?_ (by kernel_rfl) (by kernel_rfl) (by kernel_rfl)
    intro a S
    refine hxG 10 S (.int .i64 E) (i := 13) rfl (wG S rfl rfl (by decide) rfl) rfl (fun _ => rfl) (fun w' hw ev ec e => by go_simp; try rfl) HS ?_ (by kernel_rfl) (by kernel_rfl) (by kernel_rfl)
    intro a S
    refine hxG 12 S (.int .i64 E) (i := 14) rfl (wG S rfl rfl (by decide) rfl) rfl (fun _ => rfl) (fun w' hw ev ec e => by go_simp; try rfl) HS ?_ (by kernel_rfl) (by kernel_rfl) (by kernel_rfl)
    intro a S
    refine hxG2 72 73 S (.bool true) (i := 15) rfl (wG S rfl rfl (by decide) rfl) rfl rfl (fun _ => rfl) (fun _ => rfl) (fun w' hw ev ec e e2 => by go_simp; try simp) HS ?_ (by kernel_rfl) (by kernel_rfl) (by kernel_rfl)
    intro a S
    refine hxAnd (i := 16) S rfl rfl rfl (fun _ => rfl) HS ?_ (by kernel_rfl) (by kernel_rfl) (by kernel_rfl)
    intro a S
    refine hx1 75 S (.bool true) (i := 17) rfl rfl (fun w' hw ev ec e => by go_simp; try rfl) HS ?_ (by kernel_rfl) (by kernel_rfl) (by kernel_rfl)
    intro a S
    refine hxG 13 S (.agg (mA p)) (i := 18) rfl (wG S rfl rfl (by decide) rfl) rfl (fun _ => rfl) (fun w' hw ev ec e => run_load_row 31 _ rfl _ e (mA p) 31 _ (k13.below hw k13.lt) Try.underlying31 rfl (by kernel_rfl)) HS ?_ (by kernel_rfl) (by kernel_rfl) (by kernel_rfl)
    intro a S
    refine hxG 15 S (.agg (mA q)) (i := 19) rfl (wG S rfl rfl (by decide) rfl) rfl (fun _ => rfl) (fun w' hw ev ec e => run_load_row 31 _ rfl _ e (mA q) 31 _ (k15.below hw k15.lt) Try.underlying31 rfl (by kernel_rfl)) HS ?_ (by kernel_rfl) (by kernel_rfl) (by kernel_rfl)
    intro a S
    refine wpAnyH_ready (rs := [20]) (by kernel_rfl) (by simp) (AllReadyH.cons rfl ?_ AllReadyH.nil)
    refine hKG (fun _ : Unit => .bool true) () S 19 #[aggL p, aggL q] (fun _ w' => Below w10.heap.size w10 w') (wG S rfl rfl (by decide) rfl) HS (fun _ => runGG 77 78 S rfl rfl rfl rfl (fun ev ec ef e e2 => by go_simp; first | done | rfl | exact ⟨rfl, rfl⟩)) (fun _ => (rlsame_any p q sp sq w10 (rp.below HS HS.size) (rq.below HS HS.size) true (decide_eq_true hpq)).mono (fun en w' h => ⟨(), h.1, h.2⟩)) (fun _ w' hh => Below.trans HS (hh.mono HS.size)) ?_
    intro a w11 _ _ HS S
    refine hxAnd (i := 21) S rfl rfl rfl (fun _ => rfl) HS ?_ (by kernel_rfl) (by kernel_rfl) (by kernel_rfl)
    intro a S
    refine hx1 80 S (.bool true) (i := 22) rfl rfl (fun w' hw ev ec e => by go_simp; try rfl) HS ?_ (by kernel_rfl) (by kernel_rfl) (by kernel_rfl)
    intro a S
    refine hxG 14 S (.int .i64 F) (i := 23) rfl (wG S rfl rfl (by decide) rfl) rfl (fun _ => rfl) (fun w' hw ev ec e => by go_simp; try rfl) HS ?_ (by kernel_rfl) (by kernel_rfl) (by kernel_rfl)
    intro a S
    refine hxG 16 S (.int .i64 F) (i := 24) rfl (wG S rfl rfl (by decide) rfl) rfl (fun _ => rfl) (fun w' hw ev ec e => by go_simp; try rfl) HS ?_ (by kernel_rfl) (by kernel_rfl) (by kernel_rfl)
    intro a S
    refine hxG2 82 83 S (.bool true) (i := 25) rfl (wG S rfl rfl (by decide) rfl) rfl rfl (fun _ => rfl) (fun _ => rfl) (fun w' hw ev ec e e2 => by go_simp; try simp) HS ?_ (by kernel_rfl) (by kernel_rfl) (by kernel_rfl)
    intro a S
    refine hxAnd (i := 26) S rfl rfl rfl (fun _ => rfl) HS ?_ (by kernel_rfl) (by kernel_rfl) (by kernel_rfl)
    intro a S
    refine hx1 85 S (.bool true) (i := 27) rfl rfl (fun w' hw ev ec e => by go_simp; try rfl) HS ?_ (by kernel_rfl) (by kernel_rfl) (by kernel_rfl)
    intro a S
    refine wpAnyH_done (by kernel_rfl) ?_ _
    refine NoPanic.normal ?_
    show _ ∧ _
    exact ⟨S.sub (allC rfl (allC rfl (allC rfl (allC rfl (allC rfl (allC rfl (allC rfl (allC rfl (allC rfl (allC rfl (allC rfl (allC rfl (allC rfl (allC rfl (allC rfl allN))))))))))))))), HS⟩
  replace G4 := G4.trans (hb.mono G4.size)
  replace rx := (rx.below hb).more hb.size
  replace hx := hx.below hb
  replace ry := (ry.below hb).more hb.size
  replace rp := rp.below hb hb.size
  replace hsp := hsp.below hb
  replace k13 := k13.below hb k13.lt
  replace rq := rq.below hb hb.size
  replace k15 := k15.below hb k15.lt
  replace rtt := rtt.below hb hb.size
  replace hst := hst.below hb
  replace k17 := k17.below hb k17.lt
  replace hUt3 := Nat.le_trans hUt3 hb.size
  clear hb rx ry
  refine wp_join (fun a w' => Sx a 132 [(19, gv true (.bool true)), (18, gv true (.bool true)), (17, gv true (.pointer (some ⟨g17, 0, none⟩))), (16, gv true (.int .i64 F)), (15, gv true (.pointer (some ⟨g15, 0, none⟩))), (14, gv true (.int .i64 F)), (13, gv true (.pointer (some ⟨g13, 0, none⟩))), (12, gv true (.int .i64 E)), (11, gv true (.slice A11 Lx.length c11)), (10, gv true (.int .i64 E)), (9, gv true (.slice A9 Lx.length c9)), (8, gv true (.slice A8 nb c8)), (7, gv true (.pointer (some ⟨g7, 0, none⟩))), (3, gv true (.pointer (some ⟨w0.heap.size, 0, none⟩))), (4, gv true (.pointer (some ⟨w0.heap.size + 1, 0, none⟩))), (2, gv true (.slice Ab nb cb))] ∧ Below w1.heap.size w1 w') ?_ (fun a w ⟨S, hb⟩ => ?_)
  · refine wp_region_noPanic ?_
    refine wp_region_held_drew (S := fun w' => Below w1.heap.size w1 w') (by kernel_rfl) (Below.drew (Below.refl _ _)) (fun HS => ?_)
    obtain ⟨w8, hw8⟩ : ∃ W, W = w1.drew := ⟨_, rfl⟩
    rw [← hw8] at HS ⊢
    clear hw8
    have j3 := (k3.below G4 k3.lt)
    have j4 := (k4.below G4 k4.lt)
    have j7 := (k7.below G4 k7.lt)
    obtain ⟨Qs, hQs⟩ : ∃ q, decide (x0.x = y0.x) = q := ⟨_, rfl⟩
    refine hx1 17 S (.agg (mA t)) (i := 0) rfl rfl (fun w' hw ev ec e => run_load_row 31 _ rfl _ e (mA t) 31 _ (k17.below hw k17.lt) Try.underlying31 rfl (by kernel_rfl)) HS ?_ (by kernel_rfl) (by kernel_rfl) (by kernel_rfl)
    intro a S
    refine hx1 3 S (.agg (mA x0)) (i := 1) rfl rfl (fun w' hw ev ec e => run_load_row 31 _ rfl _ e (mA x0) 31 _ (j3.below hw j3.lt) Try.underlying31 rfl (by kernel_rfl)) HS ?_ (by kernel_rfl) (by kernel_rfl) (by kernel_rfl)
    intro a S
    refine wpAnyH_ready (rs := [2]) (by kernel_rfl) (by simp) (AllReadyH.cons rfl ?_ AllReadyH.nil)
    refine hKG (fun _ : Unit => .bool true) () S 19 #[aggL t, aggL x0] (fun _ w' => Below w8.heap.size w8 w') (wantN rfl _) HS (fun _ => runGG 86 87 S rfl rfl rfl rfl (fun ev ec ef e e2 => by go_simp; first | done | rfl | exact ⟨rfl, rfl⟩)) (fun _ => (rlsame_any t x0 st sx w8 (rtt.below HS HS.size) ((ra.below G4 G4.size).below HS HS.size) true (decide_eq_true (htx.trans hrx))).mono (fun en w' h => ⟨(), h.1, h.2⟩)) (fun _ w' hh => Below.trans HS (hh.mono HS.size)) ?_
    intro a w9 _ _ HS S
    refine hx1 88 S (.bool true) (i := 3) rfl rfl (fun w' hw ev ec e => by go_simp; try rfl) HS ?_ (by kernel_rfl) (by kernel_rfl) (by kernel_rfl)
    intro a S
    refine hxG 7 S (.agg (mA r)) (i := 4) rfl (wG S rfl rfl (by decide) rfl) rfl (fun _ => rfl) (fun w' hw ev ec e => run_load_row 31 _ rfl _ e (mA r) 31 _ (j7.below hw j7.lt) Try.underlying31 rfl (by kernel_rfl)) HS ?_ (by kernel_rfl) (by kernel_rfl) (by kernel_rfl)
    intro a S
    refine hxG 4 S (.agg (mA y0)) (i := 5) rfl (wG S rfl rfl (by decide) rfl) rfl (fun _ => rfl) (fun w' hw ev ec e => run_load_row 31 _ rfl _ e (mA y0) 31 _ (j4.below hw j4.lt) Try.underlying31 rfl (by kernel_rfl)) HS ?_ (by kernel_rfl) (by kernel_rfl) (by kernel_rfl)
    intro a S
    refine hxG 3 S (.agg (mA x0)) (i := 7) rfl (wG S rfl rfl (by decide) rfl) rfl (fun _ => rfl) (fun w' hw ev ec e => run_load_row 31 _ rfl _ e (mA x0) 31 _ (j3.below hw j3.lt) Try.underlying31 rfl (by kernel_rfl)) HS ?_ (by kernel_rfl) (by kernel_rfl) (by kernel_rfl)
    intro a S
    refine hxG 4 S (.agg (mA y0)) (i := 8) rfl (wG S rfl rfl (by decide) rfl) rfl (fun _ => rfl) (fun w' hw ev ec e => run_load_row 31 _ rfl _ e (mA y0) 31 _ (j4.below hw j4.lt) Try.underlying31 rfl (by kernel_rfl)) HS ?_ (by kernel_rfl) (by kernel_rfl) (by kernel_rfl)
    intro a S
    refine wpAnyH_ready (rs := [6]) (by kernel_rfl) (by simp) (AllReadyH.cons rfl ?_ AllReadyH.nil)
    refine hKG (fun _ : Unit => .bool Qs) () S 11 #[aggL r, aggL y0] (fun _ w' => Below w9.heap.size w9 w') (wG S rfl rfl (by decide) rfl) HS (fun _ => runGG 90 91 S rfl rfl rfl rfl (fun ev ec ef e e2 => by go_simp; first | done | rfl | exact ⟨rfl, rfl⟩)) (fun _ => (mlsame_any r y0 sr sy w9 ((rr.below G4 G4.size).below HS HS.size) ((rb.below G4 G4.size).below HS HS.size) Qs (by rw [hrx]; exact hQs)).mono (fun en w' h => ⟨(), h.1, h.2⟩)) (fun _ w' hh => Below.trans HS (hh.mono HS.size)) ?_
    intro a w10 _ _ HS S
    refine wpAnyH_ready (rs := [9]) (by kernel_rfl) (by simp) (AllReadyH.cons rfl ?_ AllReadyH.nil)
    refine hKG (fun _ : Unit => .bool Qs) () S 19 #[aggL x0, aggL y0] (fun _ w' => Below w10.heap.size w10 w') (wG S rfl rfl (by decide) rfl) HS (fun _ => runGG 93 94 S rfl rfl rfl rfl (fun ev ec ef e e2 => by go_simp; first | done | rfl | exact ⟨rfl, rfl⟩)) (fun _ => (rlsame_any x0 y0 sx sy w10 ((ra.below G4 G4.size).below HS HS.size) ((rb.below G4 G4.size).below HS HS.size) Qs hQs).mono (fun en w' h => ⟨(), h.1, h.2⟩)) (fun _ w' hh => Below.trans HS (hh.mono HS.size)) ?_
    intro a w11 _ _ HS S
    refine hxG2 92 95 S (.bool true) (i := 10) rfl (wG S rfl rfl (by decide) rfl) rfl rfl (fun _ => rfl) (fun _ => rfl) (fun w' hw ev ec e e2 => by go_simp; try simp) HS ?_ (by kernel_rfl) (by kernel_rfl) (by kernel_rfl)
    intro a S
    refine hxAnd (i := 11) S rfl rfl rfl (fun _ => rfl) HS ?_ (by kernel_rfl) (by kernel_rfl) (by kernel_rfl)
    intro a S
    refine hx1 97 S (.bool true) (i := 12) rfl rfl (fun w' hw ev ec e => by go_simp; try rfl) HS ?_ (by kernel_rfl) (by kernel_rfl) (by kernel_rfl)
    intro a S
    refine hxG 7 S (.agg (mA r)) (i := 13) rfl (wG S rfl rfl (by decide) rfl) rfl (fun _ => rfl) (fun w' hw ev ec e => run_load_row 31 _ rfl _ e (mA r) 31 _ (j7.below hw j7.lt) Try.underlying31 rfl (by kernel_rfl)) HS ?_ (by kernel_rfl) (by kernel_rfl) (by kernel_rfl)
    intro a S
    refine hxG 3 S (.agg (mA x0)) (i := 14) rfl (wG S rfl rfl (by decide) rfl) rfl (fun _ => rfl) (fun w' hw ev ec e => run_load_row 31 _ rfl _ e (mA x0) 31 _ (j3.below hw j3.lt) Try.underlying31 rfl (by kernel_rfl)) HS ?_ (by kernel_rfl) (by kernel_rfl) (by kernel_rfl)
    intro a S
    refine wpAnyH_ready (rs := [15]) (by kernel_rfl) (by simp) (AllReadyH.cons rfl ?_ AllReadyH.nil)
    refine hKG (fun _ : Unit => .bool true) () S 11 #[aggL r, aggL x0] (fun _ w' => Below w11.heap.size w11 w') (wG S rfl rfl (by decide) rfl) HS (fun _ => runGG 99 100 S rfl rfl rfl rfl (fun ev ec ef e e2 => by go_simp; first | done | rfl | exact ⟨rfl, rfl⟩)) (fun _ => (mlsame_any r x0 sr sx w11 ((rr.below G4 G4.size).below HS HS.size) ((ra.below G4 G4.size).below HS HS.size) true (decide_eq_true hrx)).mono (fun en w' h => ⟨(), h.1, h.2⟩)) (fun _ w' hh => Below.trans HS (hh.mono HS.size)) ?_
    intro a w12 _ _ HS S
    refine hxAnd (i := 16) S rfl rfl rfl (fun _ => rfl) HS ?_ (by kernel_rfl) (by kernel_rfl) (by kernel_rfl)
    intro a S
    refine hx1 102 S (.bool true) (i := 17) rfl rfl (fun w' hw ev ec e => by go_simp; try rfl) HS ?_ (by kernel_rfl) (by kernel_rfl) (by kernel_rfl)
    intro a S
    refine wpAnyH_done (by kernel_rfl) ?_ _
    refine NoPanic.normal ?_
    show _ ∧ _
    exact ⟨S.sub (allC rfl (allC rfl (allC rfl (allC rfl (allC rfl (allC rfl (allC rfl (allC rfl (allC rfl (allC rfl (allC rfl (allC rfl (allC rfl (allC rfl (allC rfl (allC rfl allN)))))))))))))))), HS⟩
  replace G4 := G4.trans (hb.mono G4.size)
  replace hx := hx.below hb
  replace rp := rp.below hb hb.size
  replace hsp := hsp.below hb
  replace k13 := k13.below hb k13.lt
  replace rq := rq.below hb hb.size
  replace k15 := k15.below hb k15.lt
  replace rtt := rtt.below hb hb.size
  replace hst := hst.below hb
  replace k17 := k17.below hb k17.lt
  replace hUt3 := Nat.le_trans hUt3 hb.size
  replace hUp1 : Up ≤ w.heap.size := by omega
  clear hb rp rq rtt
  refine wp_seq (wp_region_lit ?_)
  refine sx1 13 S (.agg (mA p)) (wantN rfl _) rfl (fun _ => rfl) (fun ev ec e => run_load_row 31 _ rfl _ e (mA p) 31 _ k13 Try.underlying31 rfl (by kernel_rfl)) ?_; intro a S
  refine sxKA S 20 #[aggL p] (fun u w' => u = .tuple #[] ∧ FrU Bp Up w w') (runG 103 S rfl rfl (fun ev ec ef e => by go_simp; try rfl)) ((spoil10 p Bp Up sp w hUp1 hsp).mono (fun en w' h => ⟨_, h.1, rfl, h.2⟩)) ?_
  rintro a w1 u ⟨rfl, hf⟩ S
  replace G4 := G4.trans ((hf.below (by omega)).mono hB4)
  replace k17 := hf.blk k17 (.inr (by omega))
  replace hst := hst.frU hUt hf
  replace hx := hx.low hUp hf
  replace hUt3 := Nat.le_trans hUt3 hf.size
  clear hf hsp k13
  replace S : Sx a 132 [(19, gv true (.bool true)), (18, gv true (.bool true)), (17, gv true (.pointer (some ⟨g17, 0, none⟩))), (16, gv true (.int .i64 F)), (15, gv true (.pointer (some ⟨g15, 0, none⟩))), (14, gv true (.int .i64 F)), (13, gv true (.pointer (some ⟨g13, 0, none⟩))), (12, gv true (.int .i64 E)), (11, gv true (.slice A11 Lx.length c11)), (10, gv true (.int .i64 E)), (9, gv true (.slice A9 Lx.length c9)), (8, gv true (.slice A8 nb c8)), (7, gv true (.pointer (some ⟨g7, 0, none⟩))), (3, gv true (.pointer (some ⟨w0.heap.size, 0, none⟩))), (4, gv true (.pointer (some ⟨w0.heap.size + 1, 0, none⟩))), (2, gv true (.slice Ab nb cb))] := S.sub (allC rfl (allC rfl (allC rfl (allC rfl (allC rfl (allC rfl (allC rfl (allC rfl (allC rfl (allC rfl (allC rfl (allC rfl (allC rfl (allC rfl (allC rfl (allC rfl allN))))))))))))))))
  refine wpList_nil ?_
  show Code.wp _ _ _ _ _
  refine wp_seq (wp_region_lit ?_)
  refine sx1 17 S (.agg (mA t)) (wantN rfl _) rfl (fun _ => rfl) (fun ev ec e => run_load_row 31 _ rfl _ e (mA t) 31 _ k17 Try.underlying31 rfl (by kernel_rfl)) ?_; intro a S
  refine sxKA S 20 #[aggL t] (fun u w' => u = .tuple #[] ∧ FrU Bt Ut w1 w') (runG 105 S rfl rfl (fun ev ec ef e => by go_simp; try rfl)) ((spoil10 t Bt Ut st w1 hUt3 hst).mono (fun en w' h => ⟨_, h.1, rfl, h.2⟩)) ?_
  rintro a w u ⟨rfl, hf⟩ S
  replace G4 := G4.trans ((hf.below (by omega)).mono hBt4)
  replace hx := hx.low (by omega) hf
  clear hf hst k17 k15
  replace S : Sx a 132 [(9, gv true (.slice A9 Lx.length c9)), (18, gv true (.bool true)), (19, gv true (.bool true)), (8, gv true (.slice A8 nb c8)), (7, gv true (.pointer (some ⟨g7, 0, none⟩))), (3, gv true (.pointer (some ⟨w0.heap.size, 0, none⟩))), (4, gv true (.pointer (some ⟨w0.heap.size + 1, 0, none⟩))), (2, gv true (.slice Ab nb cb))] := S.sub (allC rfl (allC rfl (allC rfl (allC rfl (allC rfl (allC rfl (allC rfl (allC rfl allN))))))))
  refine wpList_nil ?_
  show Code.wp _ _ _ _ _
  refine wp_join (fun a w => Sx a 132 [(9, gv true (.slice A9 Lx.length c9)), (18, gv true (.bool true)), (19, gv true (.bool true)), (8, gv true (.slice A8 nb c8)), (7, gv true (.pointer (some ⟨g7, 0, none⟩))), (3, gv true (.pointer (some ⟨w0.heap.size, 0, none⟩))), (4, gv true (.pointer (some ⟨w0.heap.size + 1, 0, none⟩))), (2, gv true (.slice Ab nb cb))] ∧ Below w4.heap.size w4 w) ?_ (fun a w ⟨S, G4⟩ => ?_)
  · refine wp_seq (wp_region_lit ?_)
    refine sx0 S (.int .i64 ((0 : Nat) : Int)) (wantN rfl _) rfl (by decide) (fun _ => by go_simp; try rfl) ?_; intro a S
    refine wpList_nil ?_
    show Code.wp _ _ _ _ _
    refine wp_block ?_
    refine wp_loop_ghost (fun g a w => ∃ k : Nat, g = Lx.length - k ∧ k ≤ Lx.length ∧ Sx a 132 [(20, gv true (.int .i64 (k : Int))), (9, gv true (.slice A9 Lx.length c9)), (18, gv true (.bool true)), (19, gv true (.bool true)), (8, gv true (.slice A8 nb c8)), (7, gv true (.pointer (some ⟨g7, 0, none⟩))), (3, gv true (.pointer (some ⟨w0.heap.size, 0, none⟩))), (4, gv true (.pointer (some ⟨w0.heap.size + 1, 0, none⟩))), (2, gv true (.slice Ab nb cb))] ∧ Below w4.heap.size w4 w ∧ RowW w w4.heap.size U9 5 1 A9 Lx.length) Lx.length ⟨0, rfl, Nat.zero_le _, S, G4, hx⟩ ?_
    clear S G4 hx
    rintro g a w ⟨k, rfl, hk, S, G4, hx⟩
    refine wp_seq (wp_seq (wp_region_lit ?_))
    refine qMv (fun a S => ?_)
    refine qMv (fun a S => ?_)
    refine qLen (fun a S => ?_)
    refine sx2 107 109 S (.bool (decide ((k : Int) < (Lx.length : Int)))) (wantN rfl _) rfl rfl (fun _ => rfl) (fun _ => rfl) (fun ev ec e e2 => by go_simp; try rfl) ?_; intro a S
    refine wpList_nil ?_
    show Code.wp _ _ _ _ _
    refine wp_cond_split (S.fx 110 _ rfl) (fun ht => ?_) (fun hf => ?_)
    · have hlt : k < Lx.length := by have := of_decide_eq_true ht; omega
      replace S : Sx a 132 [(20, gv true (.int .i64 (k : Int))), (9, gv true (.slice A9 Lx.length c9)), (18, gv true (.bool true)), (19, gv true (.bool true)), (8, gv true (.slice A8 nb c8)), (7, gv true (.pointer (some ⟨g7, 0, none⟩))), (3, gv true (.pointer (some ⟨w0.heap.size, 0, none⟩))), (4, gv true (.pointer (some ⟨w0.heap.size + 1, 0, none⟩))), (2, gv true (.slice Ab nb cb))] := S.sub (allC rfl (allC rfl (allC rfl (allC rfl (allC rfl (allC rfl (allC rfl (allC rfl (allC rfl allN)))))))))
      obtain ⟨g, cur, hA, hg1, hg2, hg3, hg4⟩ := hx (by omega)
      have i1 : (0 : Int) ≤ k := by omega
      have i2 : (k : Int) < (Lx.length : Int) := by omega
      refine wp_skip ?_
      show Code.wp _ _ _ _ _
      refine wp_seq (wp_block (wp_region_lit ?_))
      refine qMv (fun a S => ?_)
      refine qMv (fun a S => ?_)
      refine sx2 113 114 S (.pointer (some ⟨g, k, none⟩)) (wantN rfl _) rfl rfl (fun _ => rfl) (fun _ => rfl) (fun ev ec e e2 => by rw [hA] at e; have := add_mkq g k; go_simp; try rfl) ?_; intro a S
      refine sxSA S (w.setCell ⟨g, k, none⟩ (.int .u8 7)) (run_store_cell _ _ rfl (S.fx 115 _ rfl) rfl hg3 (by omega) rfl (by kernel_rfl)) ?_; intro a S
      replace G4 := G4.setCell (p := ⟨g, k, none⟩) hg1 (.int .u8 7)
      replace hx := hx.set (g := g) (i := k) (.int .u8 7)
      refine wpList_nil ?_
      show Code.wp _ _ _ _ _
      refine wp_region_lit ?_
      refine qMv (fun a S => ?_)
      refine sx1 111 S (.int .i64 ((k + 1 : Nat) : Int)) (wantN rfl _) rfl (fun _ => rfl) (fun ev ec e => by have hw : IntKind.i64.wrap ((k : Int) + 1) = ((k + 1 : Nat) : Int) := IntWalk.i64_in _ (by omega); go_simp; try rfl) ?_; intro a S
      refine qAs (fun a S => ?_)
      refine wpList_nil ?_
      show ∃ n', _
      exact ⟨Lx.length - (k + 1), by omega, k + 1, rfl, by omega, S.sub (allC rfl (allC rfl (allC rfl (allC rfl (allC rfl (allC rfl (allC rfl (allC rfl (allC rfl allN))))))))), G4, hx⟩
    · refine wp_exit ?_
      refine then_exit (then_exit (inBlock_exit ?_))
      show _ ∧ _
      exact ⟨S.sub (allC rfl (allC rfl (allC rfl (allC rfl (allC rfl (allC rfl (allC rfl (allC rfl allN)))))))), G4⟩
  have c1 : (convert 34 9 (.slice A8 nb c8)).run Try.prog w = .ok (.string (strOf bl)) w := conv_str hbn hbl ((rt.below G4).more G4.size)
  have j3 := (k3.below G4 k3.lt)
  have j7 := (k7.below G4 k7.lt)
  refine wp_seq (wp_region_lit ?_)
  refine qMv (fun a S => ?_)
  refine qMv (fun a S => ?_)
  refine qMv (fun a S => ?_)
  refine qAnd (fun a S => ?_)
  refine qMv (fun a S => ?_)
  refine sx1 7 S (.agg (mA r)) (wG S rfl rfl (by decide) rfl) rfl (fun _ => rfl) (fun ev ec e => run_load_row 31 _ rfl _ e (mA r) 31 _ j7 Try.underlying31 rfl (by kernel_rfl)) ?_; intro a S
  refine sx1 3 S (.agg (mA x0)) (wG S rfl rfl (by decide) rfl) rfl (fun _ => rfl) (fun ev ec e => run_load_row 31 _ rfl _ e (mA x0) 31 _ j3 Try.underlying31 rfl (by kernel_rfl)) ?_; intro a S
  refine sxC2 121 122 S 19 (.bool true) (wG S rfl rfl (by decide) rfl) rfl rfl (fun _ => rfl) (fun _ => rfl) (fun ev ef e e2 => by go_simp; first | done | rfl | exact ⟨rfl, rfl⟩) (rlsame_any r x0 sr sx w (rr.below G4 G4.size) (ra.below G4 G4.size) true (decide_eq_true hrx)) ?_; intro a w1 hb S
  replace c1 : (convert 34 9 (.slice A8 nb c8)).run Try.prog w1 = .ok (.string (strOf bl)) w1 := conv_str hbn hbl (rt.below (G4.trans (hb.mono G4.size)))
  have c2 : (convert 34 9 (.slice Ab nb cb)).run Try.prog w1 = .ok (.string (strOf bl)) w1 := conv_str hbn hbl (rB.below (G4.trans (hb.mono G4.size)))
  refine qAnd (fun a S => ?_)
  refine qMv (fun a S => ?_)
  refine qMv (fun a S => ?_)
  refine sx1 126 S (.string (strOf bl)) (wG S rfl rfl (by decide) rfl) rfl (fun _ => rfl) (fun ev ec e => by go_simp; try rfl) ?_; intro a S
  refine qMv (fun a S => ?_)
  refine sx1 128 S (.string (strOf bl)) (wG S rfl rfl (by decide) rfl) rfl (fun _ => rfl) (fun ev ec e => by go_simp; try rfl) ?_; intro a S
  refine sx2 127 129 S (.bool true) (wG S rfl rfl (by decide) rfl) rfl rfl (fun _ => rfl) (fun _ => rfl) (fun ev ec e e2 => by go_simp; try simp) ?_; intro a S
  refine qAnd (fun a S => ?_)
  refine qAs (fun a S => ?_)
  refine wpList_nil ?_
  show Code.wp _ _ _ _ _
  refine wp_ret ?_
  first | (show bodyPost _ _ _ .ret a _) | (refine then_ret ?_; show bodyPost _ _ _ .ret a _)
  refine bodyPost_ret (v := .bool true) ?_ S.df ⟨rfl, gB.trans ((G4.trans (hb.mono G4.size)).mono gB.size)⟩
  exact (results_tmp rfl _ _ _).trans (by rw [show a.tmps.getD 6 undef = _ from S.fx 6 _ rfl]; rfl)
end Go.Proofs.Ytjmhefkmpfkpbaa
