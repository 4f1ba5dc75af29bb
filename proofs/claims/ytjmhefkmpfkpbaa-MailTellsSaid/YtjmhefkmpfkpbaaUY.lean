/- Mail: mail.Read: the walk -/
import Derived.Test.YtjmhefkmpfkpbaaUX
namespace Go.Proofs.Ytjmhefkmpfkpbaa
open Go.ChangeShapes Go.WideShapes Go.ChangeAt Go.RowKit
set_option linter.unusedSimpArgs false
set_option linter.unusedVariables false
set_option maxRecDepth 100000
theorem run5 {P : Program} {w : World} {a : Act} {n : Nat} {l : List (Nat × Value)} {op : Oper} {v1 v2 v3 v4 v5 : Value} {res : Result Next} (t1 t2 t3 t4 t5 : Nat) (S : Sx a n l) (h1 : l.lookup t1 = some (gv true v1)) (h2 : l.lookup t2 = some (gv true v2)) (h3 : l.lookup t3 = some (gv true v3)) (h4 : l.lookup t4 = some (gv true v4)) (h5 : l.lookup t5 = some (gv true v5))
    (h : ∀ ev : Operand → Value, ev (.tmp t1) = v1 → ev (.tmp t2) = v2 → ev (.tmp t3) = v3 → ev (.tmp t4) = v4 → ev (.tmp t5) = v5 → (execOp ev op).run P w = res) : (execOp a.eval op).run P w = res := h _ (S.fx _ _ h1) (S.fx _ _ h2) (S.fx _ _ h3) (S.fx _ _ h4) (S.fx _ _ h5)
theorem rd_on {j : Nat} {st : Option Nat} (h : (decide ((0 : Int) < (j : Int)) && !st.isNone) = true) : 0 < j ∧ ∃ p, st = some p := by
  cases st with
  | none => simp at h
  | some p => exact ⟨by simpa using h, p, rfl⟩
theorem rd_off {j : Nat} {st : Option Nat} (h : (decide ((0 : Int) < (j : Int)) && !st.isNone) = false) : (decide (0 < j) && st.isSome) = false := by
  cases st with
  | none => simp
  | some p => simpa using h
set_option maxHeartbeats 32000000 in
theorem read_any (A : Option Addr) (n c : Nat) (b : List Nat) (hn : b.length = n) (hm : n ≤ 10000) (hc : n ≤ c) (hl : ∀ x ∈ b, x < 256) (w0 : World) (hR : Reads w0 w0.heap.size 1 A n (bytes b)) :
    Calls Try.prog 14 #[.slice A n c] w0 (ReadP b w0) := by
  go_enter Try.func14, Try.ntmps14
  refine wp_abs (l := [(0, gv true (.slice A n c))]) 157 rfl rfl (allC rfl allN) ?_
  intro a S
  refine wp_seq (wp_region_lit ?_)
  refine sxW S (.pointer (some ⟨w0.heap.size, 0, none⟩)) (w0.alloc (.cells z24 31)) (wantN rfl _) (by go_simp; try rfl) ?_; intro a S
  refine sx0 S (.int .i64 0) (wantN rfl _) rfl (by decide) (fun _ => by go_simp; try rfl) ?_; intro a S
  have kk := Blk.new w0 31 z24
  have hB := (Below.refl w0.heap.size w0).alloc (Nat.le_refl _) (.cells z24 31)
  obtain ⟨w, hw⟩ : ∃ W, W = w0.alloc (.cells z24 31) := ⟨_, rfl⟩
  rw [← hw] at kk hB ⊢
  clear hw
  refine wpList_nil ?_
  show Code.wp _ _ _ _ _
  refine wp_seq (wp_region_lit ?_)
  refine qMv (fun a S => ?_)
  refine sxKA S 23 #[.slice A n c] (fun u w' => TkP w b (.returned u) w') (runG 13 S rfl rfl (fun ev ec ef e => by go_simp; try rfl)) ((take_e A n c b hn hm hc hl w ((hR.below hB).more hB.size)).mono (fun en w' h => by rcases h with ⟨⟨h1, rfl⟩ | ⟨h1, A', n', c', rfl, h2⟩, h3⟩; exact ⟨_, rfl, .inl ⟨h1, rfl⟩, h3⟩; exact ⟨_, rfl, .inr ⟨h1, A', n', c', rfl, h2⟩, h3⟩)) ?_
  intro a w1 u hu S
  obtain ⟨K, A1, n1, c1, rfl, hK, hb1⟩ : ∃ (K : Int) (A1 : Option Addr) (n1 c1 : Nat), u = .tuple #[.int .u8 K, .slice A1 n1 c1, .int .i64 (tkE b)] ∧ (tkE b = 0 → K = ((b.getD 2 0 : Nat) : Int) ∧ n1 = (content b).length ∧ n1 ≤ c1 ∧ Reads w1 w1.heap.size 1 A1 n1 (bytes (content b))) ∧ Below w.heap.size w w1 := by
    rcases hu with ⟨⟨h1, h2⟩ | ⟨h1, A', n', c', h2, h3⟩, h4⟩
    · injection h2 with h2
      exact ⟨0, none, 0, 0, h2, fun h => absurd h h1, h4⟩
    · injection h2 with h2
      exact ⟨_, A', n', c', by rw [h1]; exact h2, fun _ => ⟨rfl, h3⟩, h4⟩
  clear hu
  replace kk := kk.below hb1 kk.lt
  replace hB := hB.trans (hb1.mono hB.size)
  clear hb1
  obtain ⟨E, hE⟩ : ∃ E, Hid (E = tkE b) := ⟨_, Lib.hid rfl⟩
  rw [← hE.out] at S
  refine qMv (fun a S => ?_)
  refine sx1 12 S (.int .u8 K) (wantN rfl _) rfl (fun _ => rfl) (fun ev ec e => by go_simp; try rfl) ?_; intro a S
  refine sx1 12 S (.slice A1 n1 c1) (wantN rfl _) rfl (fun _ => rfl) (fun ev ec e => by go_simp; try rfl) ?_; intro a S
  refine sx1 12 S (.int .i64 E) (wantN rfl _) rfl (fun _ => rfl) (fun ev ec e => by go_simp; try rfl) ?_; intro a S
  refine qAs (fun a S => ?_)
  refine qAs (fun a S => ?_)
  refine qAs (fun a S => ?_)
  replace S : Sx a 157 [(2, gv true (.pointer (some ⟨w0.heap.size, 0, none⟩))), (4, gv true (.int .u8 K)), (5, gv true (.slice A1 n1 c1)), (6, gv true (.int .i64 E))] := S.sub (allC rfl (allC rfl (allC rfl (allC rfl allN))))
  refine wpList_nil ?_
  show Code.wp _ _ _ _ _
  refine wp_seq (wp_seq (wp_region_lit ?_))
  refine qMv (fun a S => ?_)
  refine qNeq (fun a S => ?_)
  refine wpList_nil ?_
  show Code.wp _ _ _ _ _
  refine wp_cond_split (S.fx 19 _ rfl) (fun ht => ?_) (fun hf => ?_)
  · refine wp_seq (wp_region_lit ?_)
    refine sx0 S (.agg z24) (wantN rfl _) rfl (by decide) (fun _ => by go_simp; try rfl) ?_; intro a S
    refine qMv (fun a S => ?_)
    refine sxS (x := 2) (y := 20) S (w1.setRow w0.heap.size z24) rfl rfl (fun ev e e2 => run_store_row 31 _ _ rfl _ e z24 e2 31 z24 kk (by kernel_rfl) rfl (by simp [Value.oneCell'])) ?_; intro a S
    refine qAs (fun a S => ?_)
    refine wpList_nil ?_
    show Code.wp _ _ _ _ _
    refine wp_ret ?_
    first | (show bodyPost _ _ _ .ret a _) | (refine then_ret ?_; show bodyPost _ _ _ .ret a _)
    refine bodyPost_ret (results_row_slot rfl _ _ w0.heap.size 31 z24 (0, 0) _ (S.fx 2 _ rfl) (kk.setRow z24).row Try.underlying31 rfl (by kernel_rfl)) S.df ?_
    rw [show a.tmps.getD 3 undef = _ from S.fx 3 _ rfl]
    exact ⟨below_setRow hB (Nat.le_refl _) _, zeroO, E, rfl, ⟨⟨OwD.one _ _, OwD.one _ _, OwD.one _ _, OwD.one _ _⟩, World.ownsRow_nil _ _ _ _, World.ownsRow_nil _ _ _ _⟩, .inl ⟨by rw [← hE.out]; simpa using ht, hE.out, rfl⟩⟩
  have h0 : tkE b = 0 := by rw [← hE.out]; simpa using hf
  obtain ⟨rfl, hn1, hc1, hR1⟩ := hK h0
  clear hK hf
  refine wp_skip ?_
  show Code.wp _ _ _ _ _
  have e0 : ∀ z ∈ content b, z < 256 := fun z hz => hl z (List.mem_of_mem_drop (List.mem_of_mem_take hz))
  obtain ⟨L, hL⟩ : ∃ L, Hid (L = (content b).map Int.ofNat) := ⟨_, Lib.hid rfl⟩
  have I : RqI A1 n1 c1 L := by rw [hL.out]; exact ⟨by rw [List.length_map, hn1], fun z hz => (by obtain ⟨y, hy, rfl⟩ := List.mem_map.1 hz; have := e0 y hy; exact ⟨Int.natCast_nonneg y, by show (y : Int) < 256; omega⟩), by rw [hn1]; unfold content; rw [List.length_take]; omega, hc1⟩
  replace hR1 : Reads w1 w1.heap.size 1 A1 n1 (u8s L) := by rw [hL.out, show u8s ((content b).map Int.ofNat) = bytes (content b) from by unfold u8s; rw [List.map_map]; rfl]; exact hR1
  have hk : b.getD 2 0 < 256 := by
    have h9 := (tkE_ok h0).1
    rw [List.getD_eq_getElem?_getD, List.getElem?_eq_getElem (by omega)]
    exact hl _ (List.getElem_mem _)
  obtain ⟨K, hKn⟩ : ∃ k : Int, Hid (k = ((b.getD 2 0 : Nat) : Int)) := ⟨_, Lib.hid rfl⟩
  rw [← hKn.out] at S
  have hK : 0 ≤ K ∧ K < 256 := by have := hKn.out; omega
  clear hk hn1
  skip
  refine wp_seq (wp_region_lit ?_)
  refine qMv (fun a S => ?_)
  refine sx1 22 S (.agg #[.slice A1 n1 c1, .int .i64 0]) (wantN rfl _) rfl (fun _ => rfl) (fun ev ec e => by go_simp; try rfl) ?_; intro a S
  refine sx1 23 S (.agg #[.slice A1 n1 c1, .int .i64 0, .bool false]) (wantN rfl _) rfl (fun _ => rfl) (fun ev ec e => by go_simp; try rfl) ?_; intro a S
  refine sxW S (.pointer (some ⟨w1.heap.size, 0, none⟩)) (w1.alloc (.cells #[.slice A1 n1 c1, .int .i64 0, .bool false] 69)) (wantN rfl _) (runG 24 S rfl rfl (fun ev ec ef e => by go_simp; try rfl)) ?_; intro a S
  have k7 := Blk.new w1 69 #[.slice A1 n1 c1, .int .i64 0, .bool false]
  have hb := (Below.refl w1.heap.size w1).alloc (Nat.le_refl _) (.cells #[.slice A1 n1 c1, .int .i64 0, .bool false] 69)
  have Hq : RqB w0 w1.heap.size A1 n1 c1 L (some 0) (w1.alloc (.cells #[.slice A1 n1 c1, .int .i64 0, .bool false] 69)) := ⟨hB.trans (hb.mono hB.size), kk.below hb kk.lt, k7, hR1.below hb, by have := kk.lt; omega, fun p hp => by cases hp; exact Nat.zero_le _⟩
  obtain ⟨w, hw⟩ : ∃ W, W = w1.alloc (.cells #[.slice A1 n1 c1, .int .i64 0, .bool false] 69) := ⟨_, rfl⟩
  obtain ⟨g7, hg7⟩ : ∃ g, g = w1.heap.size := ⟨_, rfl⟩
  rw [← hw, ← hg7] at Hq
  rw [← hw]
  rw [← hg7] at S
  clear hw hg7 hb k7 kk hB hR1
  refine qAs (fun a S => ?_)
  refine wpList_nil ?_
  show Code.wp _ _ _ _ _
  refine wp_seq (wp_region_lit ?_)
  refine qMv (fun a S => ?_)
  refine sx1 26 S (fnT g7) (wantN rfl _) rfl (fun _ => rfl) (fun ev ec e => by go_simp; try rfl) ?_; intro a S
  refine qAs (fun a S => ?_)
  replace S : Sx a 157 [(2, gv true (.pointer (some ⟨w0.heap.size, 0, none⟩))), (4, gv true (.int .u8 K)), (5, gv true (.slice A1 n1 c1)), (7, gv true (.pointer (some ⟨g7, 0, none⟩))), (8, gv true (fnT g7))] := S.sub (allC rfl (allC rfl (allC rfl (allC rfl (allC rfl allN)))))
  refine wpList_nil ?_
  show Code.wp _ _ _ _ _
  refine wp_seq (wp_region_lit ?_)
  refine qMv (fun a S => ?_)
  refine rdN 1 I Hq S (fun a w S Hq _ => ?_)
  refine rdN 1 I Hq S (fun a w S Hq _ => ?_)
  refine rdN 2 I Hq S (fun a w S Hq _ => ?_)
  refine rdN 3 I Hq S (fun a w S Hq _ => ?_)
  refine sx0 S (.agg (mA (r0 K (hdR L).fr (hdR L).tt (hdR L).ep (hdR L).nu 0))) (wantN rfl _) rfl (by decide) (fun _ => run5 28 30 32 34 36 S rfl rfl rfl rfl rfl (fun ev b1 b2 b3 b4 b5 => by go_simp; simp [r0, zM, hdR])) ?_; intro a S
  refine sxBox z24 S rfl (fun a w2 S k9 hb e2 => ?_)
  have H : RqS w0 g7 w.heap.size A1 n1 c1 L (r0 K (hdR L).fr (hdR L).tt (hdR L).ep (hdR L).nu 0) (hdR L).st w2 := ⟨⟨Hq.below hb, k9, Hq.rd.lt⟩, ⟨⟨OwD.one _ _, OwD.one _ _, OwD.one _ _, OwD.one _ _⟩, World.ownsRow_nil _ _ _ _, World.ownsRow_nil _ _ _ _⟩⟩
  obtain ⟨g9, hg9⟩ : ∃ g, g = w.heap.size := ⟨_, rfl⟩
  rw [← hg9] at H S
  clear hg9 k9 hb e2 Hq
  obtain ⟨h, hh⟩ : ∃ h, h = hdR L := ⟨_, rfl⟩
  rw [← hh] at H
  replace hh := Lib.hid hh
  replace S : Sx a 157 (obR w0 g7 g9 K A1 n1 c1) := S.sub (allC rfl (allC rfl (allC rfl (allC rfl (allC rfl (allC rfl allN))))))
  refine wpList_nil ?_
  show Code.wp _ _ _ _ _
  refine wp_join (fun a wx => Sx a 157 (obR w0 g7 g9 K A1 n1 c1) ∧ RqS w0 g7 g9 A1 n1 c1 L (r0 K h.fr h.tt h.ep h.nu (abA K L h)) (stA K L h) wx) ?_ (fun a w ⟨S, H⟩ => ?_)
  · refine wp_seq (wp_region_lit ?_)
    repeat (first | refine qMv (fun a S => ?_) | refine qOr (fun a S => ?_) | refine qEql (fun a S => ?_) | refine qAs (fun a S => ?_))
    refine wpList_nil ?_
    show Code.wp _ _ _ _ _
    refine wp_cond_split (S.fx 43 _ rfl) (fun ht => ?_) (fun hf => ?_)
    · replace S : Sx a 157 (obR w0 g7 g9 K A1 n1 c1) := S.sub (allC rfl (allC rfl (allC rfl (allC rfl (allC rfl (allC rfl allN))))))
      have hk : K = 3 ∨ K = 4 := by simpa using ht
      refine wp_region_lit ?_
      refine rdN 3 I H.toRqB S (fun a w S h2 ho => ?_)
      replace H := H.next h2 ho
      refine qF (fun a S => ?_)
      refine rdC (off := 5) (r0 K h.fr h.tt h.ep h.nu (rN L h.st 3).2) H.toRqM S (fun a w S H _ => ?_) H.ow
      refine wpList_nil ?_
      show _ ∧ _
      refine ⟨S.sub (allC rfl (allC rfl (allC rfl (allC rfl (allC rfl (allC rfl allN)))))), ?_⟩
      unfold abA stA
      rw [if_pos hk, if_pos hk]
      exact H
    · have hk : ¬ (K = 3 ∨ K = 4) := by simpa using hf
      refine wp_skip ?_
      show _ ∧ _
      refine ⟨S.sub (allC rfl (allC rfl (allC rfl (allC rfl (allC rfl (allC rfl allN)))))), ?_⟩
      unfold abA stA
      rw [if_neg hk, if_neg hk]
      exact H
  refine wp_join (fun a wx => ∃ (r : MO) (st : Option Nat), Sx a 157 (obR w0 g7 g9 K A1 n1 c1) ∧ RqS w0 g7 g9 A1 n1 c1 L r st wx ∧ dec K L = (st, r.x)) ?_ (fun a w ⟨r, st, S, H, hd⟩ => ?_)
  · refine wp_seq (wp_region_lit ?_)
    repeat (first | refine qMv (fun a S => ?_) | refine qOr (fun a S => ?_) | refine qEql (fun a S => ?_) | refine qAs (fun a S => ?_))
    refine wpList_nil ?_
    show Code.wp _ _ _ _ _
    refine wp_block ?_
    refine wp_seq (wp_region_lit ?_)
    repeat (first | refine qMv (fun a S => ?_) | refine qOr (fun a S => ?_) | refine qEql (fun a S => ?_) | refine qAs (fun a S => ?_))
    refine wpList_nil ?_
    show Code.wp _ _ _ _ _
    refine wp_cond_split (S.fx 48 _ rfl) (fun ht => ?_) (fun hf => ?_)
    · have hk := Lib.hid (show K = 1 by simpa using ht)
      replace S : Sx a 157 (obR w0 g7 g9 K A1 n1 c1) := S.sub (allC rfl (allC rfl (allC rfl (allC rfl (allC rfl (allC rfl allN))))))
      refine wp_region_lit ?_
      refine rdY I H S (fun a w X0 cc0 S H ow1 _ => ?_)
      refine rdY I H S (fun a w X1 cc1 S H ow2 ho => ?_)
      replace ow1 := ow1.only ho (by have := H.l9; omega)
      refine qF (fun a S => ?_)
      refine qF (fun a S => ?_)
      refine rdT (y := 51) (off := 6) (⟨⟨K, h.fr, h.tt, h.ep, h.nu, abA K L h, ⟨(rD L (stA K L h)).2, ⟨false, [], 0⟩, ⟨false, [], 0⟩, ⟨false, [], 0⟩⟩, false, [], false, 0, 0, []⟩, X0, cc0, none, 0, none, 0, none, 0, none, 0, none, 0⟩) H.toRqM S (fun a w S H ho => ?_) ⟨⟨ow1, (OwD.one _ _), (OwD.one _ _), (OwD.one _ _)⟩, World.ownsRow_nil _ _ _ _, World.ownsRow_nil _ _ _ _⟩
      replace ow2 := ow2.only ho (by omega)
      refine qF (fun a S => ?_)
      refine qF (fun a S => ?_)
      refine rdT (y := 53) (off := 9) (⟨⟨K, h.fr, h.tt, h.ep, h.nu, abA K L h, ⟨(rD L (stA K L h)).2, (rD L (rD L (stA K L h)).1).2, ⟨false, [], 0⟩, ⟨false, [], 0⟩⟩, false, [], false, 0, 0, []⟩, X0, cc0, X1, cc1, none, 0, none, 0, none, 0, none, 0⟩) H.toRqM S (fun a w S H _ => ?_) ⟨⟨H.ow.1.1, ow2, (OwD.one _ _), (OwD.one _ _)⟩, World.ownsRow_nil _ _ _ _, World.ownsRow_nil _ _ _ _⟩
      refine wpList_nil ?_
      show ∃ _, _
      refine ⟨_, _, S.sub (allC rfl (allC rfl (allC rfl (allC rfl (allC rfl (allC rfl allN)))))), H, ?_⟩
      have hk := hk.out; have hh := hh.out; subst hk hh
      rfl
    · refine wp_join (fun a wx => Sx a 157 ((58, gv true (.bool ((K == 2) || (K == 3)))) :: ((47, gv true (.int .u8 K)) :: obR w0 g7 g9 K A1 n1 c1)) ∧ RqS w0 g7 g9 A1 n1 c1 L (r0 K h.fr h.tt h.ep h.nu (abA K L h)) (stA K L h) wx) ?_ (fun a w ⟨S, H⟩ => ?_)
      · refine wp_seq (wp_region_lit ?_)
        repeat (first | refine qMv (fun a S => ?_) | refine qOr (fun a S => ?_) | refine qEql (fun a S => ?_) | refine qAs (fun a S => ?_))
        refine wpList_nil ?_
        show Code.wp _ _ _ _ _
        refine wp_cond_split (S.fx 58 _ rfl) (fun ht => ?_) (fun hf => ?_)
        · refine wp_skip ?_
          show _ ∧ _
          rw [show ((K == 2) || (K == 3)) = (K == 2) from by rw [ht]; rfl]
          exact ⟨S.sub (allC rfl (allC rfl (allC rfl (allC rfl (allC rfl (allC rfl (allC rfl (allC rfl allN)))))))), H⟩
        · refine wp_region_lit ?_
          repeat (first | refine qMv (fun a S => ?_) | refine qOr (fun a S => ?_) | refine qEql (fun a S => ?_) | refine qAs (fun a S => ?_))
          refine wpList_nil ?_
          show _ ∧ _
          rw [show ((K == 2) || (K == 3)) = (K == 3) from by rw [hf]; rfl]
          exact ⟨S.sub (allC rfl (allC rfl (allC rfl (allC rfl (allC rfl (allC rfl (allC rfl (allC rfl allN)))))))), H⟩
      refine wp_cond_split (S.fx 58 _ rfl) (fun ht => ?_) (fun hg => ?_)
      · have hk := Lib.hid (show K = 2 ∨ K = 3 by simpa using ht)
        replace S : Sx a 157 (obR w0 g7 g9 K A1 n1 c1) := S.sub (allC rfl (allC rfl (allC rfl (allC rfl (allC rfl (allC rfl allN))))))
        refine wp_region_lit ?_
        refine rdY I H S (fun a w X0 cc0 S H ow1 _ => ?_)
        refine rdY I H S (fun a w X1 cc1 S H ow2 ho => ?_)
        replace ow1 := ow1.only ho (by have := H.l9; omega)
        refine qF (fun a S => ?_)
        refine qF (fun a S => ?_)
        refine rdT (y := 62) (off := 12) (⟨⟨K, h.fr, h.tt, h.ep, h.nu, abA K L h, ⟨⟨false, [], 0⟩, ⟨false, [], 0⟩, (rD L (stA K L h)).2, ⟨false, [], 0⟩⟩, false, [], false, 0, 0, []⟩, none, 0, none, 0, X0, cc0, none, 0, none, 0, none, 0⟩) H.toRqM S (fun a w S H ho => ?_) ⟨⟨(OwD.one _ _), (OwD.one _ _), ow1, (OwD.one _ _)⟩, World.ownsRow_nil _ _ _ _, World.ownsRow_nil _ _ _ _⟩
        replace ow2 := ow2.only ho (by omega)
        refine qF (fun a S => ?_)
        refine qF (fun a S => ?_)
        refine rdT (y := 64) (off := 15) (⟨⟨K, h.fr, h.tt, h.ep, h.nu, abA K L h, ⟨⟨false, [], 0⟩, ⟨false, [], 0⟩, (rD L (stA K L h)).2, (rD L (rD L (stA K L h)).1).2⟩, false, [], false, 0, 0, []⟩, none, 0, none, 0, X0, cc0, X1, cc1, none, 0, none, 0⟩) H.toRqM S (fun a w S H _ => ?_) ⟨⟨(OwD.one _ _), (OwD.one _ _), H.ow.1.2.2.1, ow2⟩, World.ownsRow_nil _ _ _ _, World.ownsRow_nil _ _ _ _⟩
        refine wpList_nil ?_
        show ∃ _, _
        refine ⟨_, _, S.sub (allC rfl (allC rfl (allC rfl (allC rfl (allC rfl (allC rfl allN)))))), H, ?_⟩
        have hk := hk.out
        have hh := hh.out
        rcases hk with rfl | rfl
        · subst hh
          rfl
        · subst hh
          rfl
      refine wp_seq (wp_region_lit ?_)
      repeat (first | refine qMv (fun a S => ?_) | refine qOr (fun a S => ?_) | refine qEql (fun a S => ?_) | refine qAs (fun a S => ?_))
      refine wpList_nil ?_
      show Code.wp _ _ _ _ _
      refine wp_cond_split (S.fx 69 _ rfl) (fun ht => ?_) (fun hi => ?_)
      · have hk := Lib.hid (show K = 5 by simpa using ht)
        have e3 : ¬ (K = 3 ∨ K = 4) := by have := hk.out; omega
        replace H : RqS w0 g7 g9 A1 n1 c1 L (r0 K h.fr h.tt h.ep h.nu 0) h.st w := by unfold abA stA at H; rw [if_neg e3, if_neg e3] at H; exact H
        replace S : Sx a 157 (obR w0 g7 g9 K A1 n1 c1) := S.sub (allC rfl (allC rfl (allC rfl (allC rfl (allC rfl (allC rfl allN))))))
        refine wp_seq (wp_region_lit ?_)
        refine rdN 1 I H.toRqB S (fun a w S h2 ho => ?_)
        replace H := H.next h2 ho
        refine qEql (fun a S => ?_)
        refine qF (fun a S => ?_)
        refine rdC (y := 73) (off := 18) (⟨⟨K, h.fr, h.tt, h.ep, h.nu, 0, zM, (rN L h.st 1).2 == 1, [], false, 0, 0, []⟩, none, 0, none, 0, none, 0, none, 0, none, 0, none, 0⟩) H.toRqM S (fun a w S H _ => ?_) H.ow
        replace S : Sx a 157 (obR w0 g7 g9 K A1 n1 c1) := S.sub (allC rfl (allC rfl (allC rfl (allC rfl (allC rfl (allC rfl allN))))))
        refine wpList_nil ?_
        show Code.wp _ _ _ _ _
        refine wp_seq (wp_region_lit ?_)
        refine rdN 1 I H.toRqB S (fun a w S h2 ho => ?_)
        replace H := H.next h2 ho
        obtain ⟨N, hN⟩ : ∃ N : Nat, (rN L (rN L h.st 1).1 1).2 = (N : Int) := ⟨(rN L (rN L h.st 1).1 1).2.toNat, by have := (rN_range I.hb (rN L h.st 1).1 1).1; omega⟩
        have hN8 : (N : Int) < ((256 ^ 1 : Nat) : Int) := by rw [← hN]; exact (rN_range I.hb _ 1).2
        replace hN8 : N < 256 := by omega
        rw [hN] at S
        refine qAs (fun a S => ?_)
        replace S : Sx a 157 (((10, gv true (.int .i64 (N : Int)))) :: obR w0 g7 g9 K A1 n1 c1) := S.sub (allC rfl (allC rfl (allC rfl (allC rfl (allC rfl (allC rfl (allC rfl allN)))))))
        refine wpList_nil ?_
        show Code.wp _ _ _ _ _
        refine wp_block ?_
        refine wp_loop_ghost (fun k a wx => ∃ (j : Nat) (st : Option Nat) (acc : List Tm) (D : Option Addr) (dc : Nat), k = j ∧ j + acc.length ≤ N ∧ Sx a 157 (((10, gv true (.int .i64 (j : Int)))) :: obR w0 g7 g9 K A1 n1 c1) ∧ RqS w0 g7 g9 A1 n1 c1 L ⟨⟨K, h.fr, h.tt, h.ep, h.nu, 0, zM, (rN L h.st 1).2 == 1, acc, false, 0, 0, []⟩, none, 0, none, 0, none, 0, none, 0, D, dc, none, 0⟩ st wx ∧ lpD L N (rN L (rN L h.st 1).1 1).1 [] = lpD L j st acc) N ⟨N, _, [], none, 0, rfl, Nat.le_refl _, S, H, rfl⟩ ?_
        clear S H
        rintro j a w ⟨_, st, acc, D, dc, rfl, hj, S, H, hlp⟩
        refine wp_seq (wp_seq (wp_region_lit ?_))
        refine qMv (fun a S => ?_)
        refine qGtr (fun a S => ?_)
        refine qMv (fun a S => ?_)
        refine qMv (fun a S => ?_)
        refine sx1 80 S (.pointer (some ⟨g7, 0, none⟩)) (wG S rfl rfl (by decide) rfl) rfl id (fun ev ec e => by go_simp; try rfl) ?_; intro a S
        refine qF (fun a S => ?_)
        refine sx1 82 S (.bool st.isNone) (wG S rfl rfl (by decide) rfl) rfl id (fun ev ec e => by have s0 := H.rd.wrong; go_simp; try rfl) ?_; intro a S
        refine qNot (fun a S => ?_)
        refine qAnd (fun a S => ?_)
        refine wpList_nil ?_
        show Code.wp _ _ _ _ _
        refine wp_cond_split (S.fx 85 _ rfl) (fun ht => ?_) (fun hf => ?_)
        · obtain ⟨hj0, p, rfl⟩ := rd_on ht
          replace S : Sx a 157 (((10, gv true (.int .i64 (j : Int)))) :: obR w0 g7 g9 K A1 n1 c1) := S.sub (allC rfl (allC rfl (allC rfl (allC rfl (allC rfl (allC rfl (allC rfl allN)))))))
          refine wp_skip ?_
          show Code.wp _ _ _ _ _
          refine wp_seq (wp_block ?_)
          refine wp_region_noPanic ?_
          refine wp_region_held_drew (S := fun _ => True) (by kernel_rfl) trivial (fun _ => ?_)
          refine anyH_lit (by kernel_rfl) (rd5R I (by omega) _ (by rfl) _ (fun a w D' dc' S H => ?_) a w.drew S H.drew)
          show Code.wp _ _ _ _ _
          obtain ⟨j2, rfl⟩ : ∃ j2, j = j2 + 1 := ⟨j - 1, by omega⟩
          refine wp_region_lit ?_
          refine qMv (fun a S => ?_)
          refine sx1 86 S (.int .i64 (j2 : Int)) (wantN rfl _) rfl (fun _ => rfl) (fun ev ec e => by have hw : IntKind.i64.wrap (j2 : Int) = (j2 : Int) := IntWalk.i64_in _ (by omega); go_simp; try rfl) ?_; intro a S
          refine qAs (fun a S => ?_)
          refine wpList_nil ?_
          show ∃ n', _
          exact ⟨j2, by omega, j2, _, _, _, _, rfl, by simp; omega, S.sub (allC rfl (allC rfl (allC rfl (allC rfl (allC rfl (allC rfl (allC rfl allN))))))), H, hlp⟩
        · refine wp_exit ?_
          refine then_exit (then_exit (inBlock_exit ?_))
          show ∃ _, _
          refine ⟨_, _, S.sub (allC rfl (allC rfl (allC rfl (allC rfl (allC rfl (allC rfl allN)))))), H, ?_⟩
          have hs := hlp.trans (lpD_stop (rd_off hf))
          have hk := hk.out; have hh := hh.out; subst hk hh
          show ((lpD L (rN L (rN L (hdR L).st 1).1 1).2.toNat (rN L (rN L (hdR L).st 1).1 1).1 []).1, (⟨5, _, _, _, _, 0, zM, _, (lpD L (rN L (rN L (hdR L).st 1).1 1).2.toNat (rN L (rN L (hdR L).st 1).1 1).1 []).2, false, 0, 0, []⟩ : Ml)) = _
          rw [hN, Int.toNat_natCast, hs]
      refine wp_seq (wp_region_lit ?_)
      repeat (first | refine qMv (fun a S => ?_) | refine qOr (fun a S => ?_) | refine qEql (fun a S => ?_) | refine qAs (fun a S => ?_))
      refine wpList_nil ?_
      show Code.wp _ _ _ _ _
      refine wp_cond_split (S.fx 98 _ rfl) (fun ht => ?_) (fun hj => ?_)
      · have hk := Lib.hid (show K = 6 by simpa using ht)
        have e3 : ¬ (K = 3 ∨ K = 4) := by have := hk.out; omega
        replace H : RqS w0 g7 g9 A1 n1 c1 L (r0 K h.fr h.tt h.ep h.nu 0) h.st w := by unfold abA stA at H; rw [if_neg e3, if_neg e3] at H; exact H
        replace S : Sx a 157 (obR w0 g7 g9 K A1 n1 c1) := S.sub (allC rfl (allC rfl (allC rfl (allC rfl (allC rfl (allC rfl allN))))))
        refine wp_seq (wp_region_lit ?_)
        refine rdN 1 I H.toRqB S (fun a w S h2 ho => ?_)
        replace H := H.next h2 ho
        refine qEql (fun a S => ?_)
        refine qF (fun a S => ?_)
        refine qF (fun a S => ?_)
        refine rdC (y := 102) (off := 20) (⟨⟨K, h.fr, h.tt, h.ep, h.nu, 0, zM, false, [], (rN L h.st 1).2 == 1, 0, 0, []⟩, none, 0, none, 0, none, 0, none, 0, none, 0, none, 0⟩) H.toRqM S (fun a w S H _ => ?_) H.ow
        replace S : Sx a 157 (obR w0 g7 g9 K A1 n1 c1) := S.sub (allC rfl (allC rfl (allC rfl (allC rfl (allC rfl (allC rfl allN))))))
        refine wpList_nil ?_
        show Code.wp _ _ _ _ _
        refine wp_seq (wp_region_lit ?_)
        refine rdN 4 I H.toRqB S (fun a w S h2 ho => ?_)
        replace H := H.next h2 ho
        have hx0 := rN_range I.hb (rN L h.st 1).1 4
        have wra : IntKind.i64.wrap ((rN L (rN L h.st 1).1 4).2 - 2147483647) = (rN L (rN L h.st 1).1 4).2 - 2147483647 := IntWalk.i64_in _ (by omega)
        have wrb : IntKind.i64.wrap ((rN L (rN L h.st 1).1 4).2 - 2147483647 - 1) = (rN L (rN L h.st 1).1 4).2 - 2147483648 := by rw [IntWalk.i64_in _ (by omega)]; omega
        refine sx1 106 S (.int .i64 ((rN L (rN L h.st 1).1 4).2 - 2147483647)) (wantN rfl _) rfl (fun _ => rfl) (fun ev ec e => by go_simp; try rfl) ?_; intro a S
        refine sx1 107 S (.int .i64 ((rN L (rN L h.st 1).1 4).2 - 2147483648)) (wantN rfl _) rfl (fun _ => rfl) (fun ev ec e => by go_simp; try rfl) ?_; intro a S
        clear wra wrb hx0
        refine rdN 4 I H.toRqB S (fun a w S h2 ho => ?_)
        replace H := H.next h2 ho
        have hx0 := rN_range I.hb (rN L (rN L h.st 1).1 4).1 4
        have wra : IntKind.i64.wrap ((rN L (rN L (rN L h.st 1).1 4).1 4).2 - 2147483647) = (rN L (rN L (rN L h.st 1).1 4).1 4).2 - 2147483647 := IntWalk.i64_in _ (by omega)
        have wrb : IntKind.i64.wrap ((rN L (rN L (rN L h.st 1).1 4).1 4).2 - 2147483647 - 1) = (rN L (rN L (rN L h.st 1).1 4).1 4).2 - 2147483648 := by rw [IntWalk.i64_in _ (by omega)]; omega
        refine sx1 110 S (.int .i64 ((rN L (rN L (rN L h.st 1).1 4).1 4).2 - 2147483647)) (wantN rfl _) rfl (fun _ => rfl) (fun ev ec e => by go_simp; try rfl) ?_; intro a S
        refine sx1 111 S (.int .i64 ((rN L (rN L (rN L h.st 1).1 4).1 4).2 - 2147483648)) (wantN rfl _) rfl (fun _ => rfl) (fun ev ec e => by go_simp; try rfl) ?_; intro a S
        clear wra wrb hx0
        refine qF (fun a S => ?_)
        refine qF (fun a S => ?_)
        refine rdC (y := 108) (off := 21) (⟨⟨K, h.fr, h.tt, h.ep, h.nu, 0, zM, false, [], (rN L h.st 1).2 == 1, (rN L (rN L h.st 1).1 4).2 - 2147483648, 0, []⟩, none, 0, none, 0, none, 0, none, 0, none, 0, none, 0⟩) H.toRqM S (fun a w S H _ => ?_) H.ow
        refine qF (fun a S => ?_)
        refine qF (fun a S => ?_)
        refine rdC (y := 112) (off := 22) (⟨⟨K, h.fr, h.tt, h.ep, h.nu, 0, zM, false, [], (rN L h.st 1).2 == 1, (rN L (rN L h.st 1).1 4).2 - 2147483648, (rN L (rN L (rN L h.st 1).1 4).1 4).2 - 2147483648, []⟩, none, 0, none, 0, none, 0, none, 0, none, 0, none, 0⟩) H.toRqM S (fun a w S H _ => ?_) H.ow
        replace S : Sx a 157 (obR w0 g7 g9 K A1 n1 c1) := S.sub (allC rfl (allC rfl (allC rfl (allC rfl (allC rfl (allC rfl allN))))))
        refine wpList_nil ?_
        show Code.wp _ _ _ _ _
        refine wp_seq (wp_region_lit ?_)
        refine rdN 1 I H.toRqB S (fun a w S h2 ho => ?_)
        replace H := H.next h2 ho
        obtain ⟨N, hN⟩ : ∃ N : Nat, (rN L (rN L (rN L (rN L h.st 1).1 4).1 4).1 1).2 = (N : Int) := ⟨(rN L (rN L (rN L (rN L h.st 1).1 4).1 4).1 1).2.toNat, by have := (rN_range I.hb (rN L (rN L (rN L h.st 1).1 4).1 4).1 1).1; omega⟩
        have hN8 : (N : Int) < ((256 ^ 1 : Nat) : Int) := by rw [← hN]; exact (rN_range I.hb _ 1).2
        replace hN8 : N < 256 := by omega
        rw [hN] at S
        refine qAs (fun a S => ?_)
        replace S : Sx a 157 (((11, gv true (.int .i64 (N : Int)))) :: obR w0 g7 g9 K A1 n1 c1) := S.sub (allC rfl (allC rfl (allC rfl (allC rfl (allC rfl (allC rfl (allC rfl allN)))))))
        refine wpList_nil ?_
        show Code.wp _ _ _ _ _
        refine wp_block ?_
        refine wp_loop_ghost (fun k a wx => ∃ (j : Nat) (st : Option Nat) (acc : List Nat) (D : Option Addr) (dc : Nat), k = j ∧ j + acc.length ≤ N ∧ Sx a 157 (((11, gv true (.int .i64 (j : Int)))) :: obR w0 g7 g9 K A1 n1 c1) ∧ RqS w0 g7 g9 A1 n1 c1 L ⟨⟨K, h.fr, h.tt, h.ep, h.nu, 0, zM, false, [], (rN L h.st 1).2 == 1, (rN L (rN L h.st 1).1 4).2 - 2147483648, (rN L (rN L (rN L h.st 1).1 4).1 4).2 - 2147483648, acc⟩, none, 0, none, 0, none, 0, none, 0, none, 0, D, dc⟩ st wx ∧ lpN L N (rN L (rN L (rN L (rN L h.st 1).1 4).1 4).1 1).1 [] = lpN L j st acc) N ⟨N, _, [], none, 0, rfl, Nat.le_refl _, S, H, rfl⟩ ?_
        clear S H
        rintro j a w ⟨_, st, acc, D, dc, rfl, hj, S, H, hlp⟩
        refine wp_seq (wp_seq (wp_region_lit ?_))
        refine qMv (fun a S => ?_)
        refine qGtr (fun a S => ?_)
        refine qMv (fun a S => ?_)
        refine qMv (fun a S => ?_)
        refine sx1 122 S (.pointer (some ⟨g7, 0, none⟩)) (wG S rfl rfl (by decide) rfl) rfl id (fun ev ec e => by go_simp; try rfl) ?_; intro a S
        refine qF (fun a S => ?_)
        refine sx1 124 S (.bool st.isNone) (wG S rfl rfl (by decide) rfl) rfl id (fun ev ec e => by have s0 := H.rd.wrong; go_simp; try rfl) ?_; intro a S
        refine qNot (fun a S => ?_)
        refine qAnd (fun a S => ?_)
        refine wpList_nil ?_
        show Code.wp _ _ _ _ _
        refine wp_cond_split (S.fx 127 _ rfl) (fun ht => ?_) (fun hf => ?_)
        · obtain ⟨hj0, p, rfl⟩ := rd_on ht
          replace S : Sx a 157 (((11, gv true (.int .i64 (j : Int)))) :: obR w0 g7 g9 K A1 n1 c1) := S.sub (allC rfl (allC rfl (allC rfl (allC rfl (allC rfl (allC rfl (allC rfl allN)))))))
          refine wp_skip ?_
          show Code.wp _ _ _ _ _
          refine wp_seq (wp_block ?_)
          refine wp_region_noPanic ?_
          refine wp_region_held_drew (S := fun _ => True) (by kernel_rfl) trivial (fun _ => ?_)
          refine anyH_lit (by kernel_rfl) (rd6R I (by omega) _ (by rfl) _ (fun a w D' dc' S H => ?_) a w.drew S H.drew)
          show Code.wp _ _ _ _ _
          obtain ⟨j2, rfl⟩ : ∃ j2, j = j2 + 1 := ⟨j - 1, by omega⟩
          refine wp_region_lit ?_
          refine qMv (fun a S => ?_)
          refine sx1 128 S (.int .i64 (j2 : Int)) (wantN rfl _) rfl (fun _ => rfl) (fun ev ec e => by have hw : IntKind.i64.wrap (j2 : Int) = (j2 : Int) := IntWalk.i64_in _ (by omega); go_simp; try rfl) ?_; intro a S
          refine qAs (fun a S => ?_)
          refine wpList_nil ?_
          show ∃ n', _
          exact ⟨j2, by omega, j2, _, _, _, _, rfl, by simp; omega, S.sub (allC rfl (allC rfl (allC rfl (allC rfl (allC rfl (allC rfl (allC rfl allN))))))), H, hlp⟩
        · refine wp_exit ?_
          refine then_exit (then_exit (inBlock_exit ?_))
          show ∃ _, _
          refine ⟨_, _, S.sub (allC rfl (allC rfl (allC rfl (allC rfl (allC rfl (allC rfl allN)))))), H, ?_⟩
          have hs := hlp.trans (lpN_stop (rd_off hf))
          have hk := hk.out; have hh := hh.out; subst hk hh
          show ((lpN L (rN L (rN L (rN L (rN L (hdR L).st 1).1 4).1 4).1 1).2.toNat (rN L (rN L (rN L (rN L (hdR L).st 1).1 4).1 4).1 1).1 []).1, (⟨6, _, _, _, _, 0, zM, false, [], _, _, _, (lpN L (rN L (rN L (rN L (rN L (hdR L).st 1).1 4).1 4).1 1).2.toNat (rN L (rN L (rN L (rN L (hdR L).st 1).1 4).1 4).1 1).1 []).2⟩ : Ml)) = _
          rw [hN, Int.toNat_natCast, hs]
      refine wp_skip ?_
      show ∃ _, _
      refine ⟨_, _, S.sub (allC rfl (allC rfl (allC rfl (allC rfl (allC rfl (allC rfl allN)))))), H, ?_⟩
      simp only [beq_eq_false_iff_ne, Bool.or_eq_false_iff, ne_eq] at hf hg hi hj
      replace hh := hh.out
      by_cases h4 : K = 4
      · subst h4 hh
        rfl
      · subst hh
        simp only [dec, if_neg hf, if_neg hg.1, if_neg hg.2, if_neg h4, if_neg hi, if_neg hj, stA, abA, r0, if_neg (show ¬ (K = 3 ∨ K = 4) from fun h => h.elim hg.2 h4)]
  clear hh
  have hsm : smL r.x := by have := dec_smU (K := K) I.hb; rw [hd] at this; exact this
  have hlt : ltL r.x := by have := dec_ltU (K := K) I.hb; rw [hd] at this; exact this
  have hcv : ∀ w', RqS w0 g7 g9 A1 n1 c1 L r st w' → (convert 34 9 (.slice A1 n1 c1)).run Try.prog w' = .ok (.string (strOf (L.map Int.toNat))) w' := fun w' hw => conv_str (by rw [List.length_map, I.hn]) (fun b hb => by obtain ⟨z, hz, rfl⟩ := List.mem_map.1 hb; have := I.hb z hz; omega) (by rw [← u8s_bytes (fun b hb => (I.hb b hb).1)]; exact hw.hR)
  have inj : ((strOf (byP r.x)).toList == (strOf (L.map Int.toNat)).toList) = decide (byP r.x = L.map Int.toNat) := strOf_inj (byP_lt _) (fun b hb => by obtain ⟨z, hz, rfl⟩ := List.mem_map.1 hb; have := I.hb z hz; omega)
  refine wp_seq (wp_seq (wp_region_noPanic ?_))
  refine wp_region_held_drew (S := fun w' => RqS w0 g7 g9 A1 n1 c1 L r st w') (by kernel_rfl) H.drew (fun H => ?_)
  refine hx1 7 S (.pointer (some ⟨g7, 0, none⟩)) (i := 0) rfl rfl (fun w' hw ev ec e => by go_simp; try rfl) H ?_ (by kernel_rfl) (by kernel_rfl) (by kernel_rfl)
  intro a S
  refine hx1 138 S (.pointer (some ⟨g7, 0, none⟩)) (i := 1) rfl rfl (fun w' hw ev ec e => by go_simp; try rfl) H ?_ (by kernel_rfl) (by kernel_rfl) (by kernel_rfl)
  intro a S
  refine hx1 139 S (.pointer (some ⟨g7, 2, none⟩)) (i := 2) rfl rfl (fun w' hw ev ec e => by go_simp; try rfl) H ?_ (by kernel_rfl) (by kernel_rfl) (by kernel_rfl)
  intro a S
  refine hx1 140 S (.bool st.isNone) (i := 3) rfl rfl (fun w' hw ev ec e => by have s0 := hw.rd.wrong; go_simp; try rfl) H ?_ (by kernel_rfl) (by kernel_rfl) (by kernel_rfl)
  intro a S
  refine hx1 141 S (.bool st.isNone) (i := 4) rfl rfl (fun w' hw ev ec e => by go_simp; try rfl) H ?_ (by kernel_rfl) (by kernel_rfl) (by kernel_rfl)
  intro a S
  refine hxG 9 S (.agg (mA r)) (i := 5) rfl (wG S rfl rfl (by decide) rfl) rfl (fun _ => rfl) (fun w' hw ev ec e => run_load_row 31 _ rfl _ e (mA r) 31 _ hw.k9 Try.underlying31 rfl (by kernel_rfl)) H ?_ (by kernel_rfl) (by kernel_rfl) (by kernel_rfl)
  intro a S
  refine wpAnyH_ready (rs := [6]) (by kernel_rfl) (by simp) (AllReadyH.cons rfl ?_ AllReadyH.nil)
  refine hKG (fun z : Int => .int .i64 z) 0 S 17 #[aggL r] (fun z w' => ((okL r.x ∧ z = 0) ∨ (¬ okL r.x ∧ z = 100)) ∧ Below w.drew.heap.size w.drew w') (wG S rfl rfl (by decide) rfl) H (fun e => runG 143 S rfl e (fun ev ec ef e => by go_simp; try rfl)) (fun e => (check_any r hsm w.drew (OwL.rd H.ow)).mono (fun en w' ⟨E, h1, h2, h3⟩ => ⟨E, h1, h2, h3⟩)) (fun x w' hh => H.below hh.2) ?_
  intro a w1 z hz H S
  refine hxG 144 S (.bool (z != 0)) (i := 7) rfl (wG S rfl rfl (by decide) rfl) rfl id (fun w' hw ev ec e => by go_simp; try rfl) H ?_ (by kernel_rfl) (by kernel_rfl) (by kernel_rfl)
  intro a S
  refine hxOr (i := 8) S rfl rfl rfl (fun h => by rw [h]; rfl) H ?_ (by kernel_rfl) (by kernel_rfl) (by kernel_rfl)
  intro a S
  refine hx1 146 S (.bool (st.isNone || (z != 0))) (i := 9) rfl rfl (fun w' hw ev ec e => by go_simp; try rfl) H ?_ (by kernel_rfl) (by kernel_rfl) (by kernel_rfl)
  intro a S
  refine hxG 9 S (.agg (mA r)) (i := 10) rfl (wG S rfl rfl (by decide) rfl) rfl (fun _ => rfl) (fun w' hw ev ec e => run_load_row 31 _ rfl _ e (mA r) 31 _ hw.k9 Try.underlying31 rfl (by kernel_rfl)) H ?_ (by kernel_rfl) (by kernel_rfl) (by kernel_rfl)
  intro a S
  refine hxG 5 S (.slice A1 n1 c1) (i := 13) rfl (wG S rfl rfl (by decide) rfl) rfl (fun _ => rfl) (fun w' hw ev ec e => by go_simp; try rfl) H ?_ (by kernel_rfl) (by kernel_rfl) (by kernel_rfl)
  intro a S
  refine hxG 151 S (.string (strOf (L.map Int.toNat))) (i := 14) rfl (wG S rfl rfl (by decide) rfl) rfl id (fun w' hw ev ec e => by have hc := hcv w' hw; go_simp; try rfl) H ?_ (by kernel_rfl) (by kernel_rfl) (by kernel_rfl)
  intro a S
  have gok : (true && ((st.isNone || (z != 0)) == false)) = true → okL r.x := fun e => by
    cases hs : st.isNone
    · rcases (hz (by rw [hs]; rfl)).1 with h | h
      · exact h.1
      · rw [hs, h.2] at e; cases e
    · rw [hs] at e; cases e
  refine wpAnyH_ready (rs := [11]) (by kernel_rfl) (by simp) (AllReadyH.cons rfl ?_ AllReadyH.nil)
  refine hKG (fun x : Option Addr × Nat => .slice x.1 (total (conP r.x)) x.2) (none, 0) S 26 #[aggL r] (fun x w' => w'.ownsRow w1.heap.size 5 1 (.slice x.1 (total (conP r.x)) x.2) (total (conP r.x)) (u8s (flat (conP r.x))) ∧ Below w1.heap.size w1 w') (wG S rfl rfl (by decide) rfl) H (fun e => runG 148 S rfl e (fun ev ec ef e => by go_simp; try rfl)) (fun e => (content_any r (gok e) hlt w1 (OwL.rd H.ow)).mono (fun en w' ⟨X, cc, h1, h2, h3⟩ => ⟨(X, cc), h1, h2, h3⟩)) (fun x w' hh => H.below hh.2) ?_
  intro a w2 ⟨X, cc⟩ hcx H S
  refine wpAnyH_ready (rs := [12]) (by kernel_rfl) (by simp) (AllReadyH.cons rfl ?_ AllReadyH.nil)
  refine hVG S (.string (strOf (byP r.x))) (wG S rfl rfl (by decide) rfl) H (fun e => runG 149 S rfl e (fun ev ec ef e2 => by have hc := conv_str (c := cc) (byP_len r.x) (byP_lt r.x) (by rw [show bytes (byP r.x) = u8s (flat (conP r.x)) from (u8s_bytes (fun b hb => (flat_byte _ b hb).1)).symm]; exact Reads.of_own (hcx e).1); go_simp; try rfl)) ?_
  intro a S
  refine hxG2 150 152 S (.bool (!decide (byP r.x = L.map Int.toNat))) (i := 15) rfl (wG S rfl rfl (by decide) rfl) rfl rfl id id (fun w' hw ev ec e e2 => by rw [← inj]; go_simp; try rfl) H ?_ (by kernel_rfl) (by kernel_rfl) (by kernel_rfl)
  intro a S
  refine hxOr (i := 16) S rfl rfl rfl (fun h => by rw [h]; rfl) H ?_ (by kernel_rfl) (by kernel_rfl) (by kernel_rfl)
  intro a S
  refine wpAnyH_done (by kernel_rfl) ?_ _
  refine NoPanic.normal ?_
  show Code.wp _ _ _ _ _
  replace hKn := hKn.out
  replace hL := hL.out
  refine wp_cond_split (S.fx 154 _ rfl) (fun ht => ?_) (fun hf => ?_)
  · refine wp_seq (wp_region_lit ?_)
    refine sx0 S (.agg z24) (wantN rfl _) rfl (by decide) (fun _ => by go_simp; try rfl) ?_; intro a S
    refine sxS (x := 2) (y := 155) S (w2.setRow w0.heap.size z24) rfl rfl (fun ev e e2 => run_store_row 31 _ _ rfl _ e z24 e2 31 z24 H.k2 (by kernel_rfl) rfl (by simp [Value.oneCell'])) ?_; intro a S
    refine sx0 S (.int .i64 41) (wantN rfl _) rfl (by decide) (fun _ => by go_simp; try rfl) ?_; intro a S
    refine wpList_nil ?_
    show Code.wp _ _ _ _ _
    refine wp_ret ?_
    first | (show bodyPost _ _ _ .ret a _) | (refine then_ret ?_; show bodyPost _ _ _ .ret a _)
    refine bodyPost_ret (results_row_slot rfl _ _ w0.heap.size 31 z24 (0, 0) _ (S.fx 2 _ rfl) (H.k2.setRow z24).row Try.underlying31 rfl (by kernel_rfl)) S.df ?_
    rw [show a.tmps.getD 3 undef = _ from S.fx 3 _ rfl]
    refine ⟨below_setRow H.hB (Nat.le_refl _) _, zeroO, 41, rfl, ⟨⟨OwD.one _ _, OwD.one _ _, OwD.one _ _, OwD.one _ _⟩, World.ownsRow_nil _ _ _ _, World.ownsRow_nil _ _ _ _⟩, .inr ⟨h0, .inr ⟨rfl, rfl, fun m hm => ?_⟩⟩⟩
    rw [← hKn, ← hL] at hm
    obtain ⟨h1, h2, h3, h4⟩ := hm
    rw [hd] at h1 h2
    subst h2
    have hs : st.isNone = false := by cases st <;> simp_all
    have hz1 : z = 0 := by
      rcases (hz (by rw [hs]; rfl)).1 with h | h
      · exact h.2
      · exact absurd h3 h.1
    rw [hs, hz1, decide_eq_true ((flat_eqU I.hb r.x).2 h4)] at ht
    cases ht
  · refine wp_skip ?_
    show Code.wp _ _ _ _ _
    refine wp_seq (wp_region_lit ?_)
    refine sx1 9 S (.agg (mA r)) (wantN rfl _) rfl (fun _ => rfl) (fun ev ec e => run_load_row 31 _ rfl _ e (mA r) 31 _ H.k9 Try.underlying31 rfl (by kernel_rfl)) ?_; intro a S
    refine sxS (x := 2) (y := 156) S (w2.setRow w0.heap.size (mA r)) rfl rfl (fun ev e e2 => run_store_row 31 _ _ rfl _ e (mA r) e2 31 z24 H.k2 (by kernel_rfl) rfl (by simp [Value.oneCell'])) ?_; intro a S
    refine sx0 S (.int .i64 0) (wantN rfl _) rfl (by decide) (fun _ => by go_simp; try rfl) ?_; intro a S
    refine wpList_nil ?_
    show Code.wp _ _ _ _ _
    refine wp_ret ?_
    first | (show bodyPost _ _ _ .ret a _) | (refine then_ret ?_; show bodyPost _ _ _ .ret a _)
    refine bodyPost_ret (results_row_slot rfl _ _ w0.heap.size 31 (mA r) (0, 0) _ (S.fx 2 _ rfl) (H.k2.setRow (mA r)).row Try.underlying31 rfl (by kernel_rfl)) S.df ?_
    rw [show a.tmps.getD 3 undef = _ from S.fx 3 _ rfl]
    obtain ⟨h1, h2, h3⟩ : st.isNone = false ∧ z = 0 ∧ byP r.x = L.map Int.toNat := by simpa [and_assoc] using hf
    refine ⟨below_setRow H.hB (Nat.le_refl _) _, r, 0, rfl, ?_, .inr ⟨h0, .inl ⟨rfl, ?_⟩⟩⟩
    · exact (H.ow.setRow (by have := H.lt; have := H.l9; omega) _).base_le (by have := H.lt; have := H.l9; omega)
    · rw [← hKn, ← hL]
      refine ⟨by rw [hd]; cases st <;> simp_all, by rw [hd], ?_, (flat_eqU I.hb r.x).1 h3⟩
      rcases (hz (by rw [h1]; rfl)).1 with h | h
      · exact h.1
      · rw [h2] at h; exact absurd h.2 (by decide)
end Go.Proofs.Ytjmhefkmpfkpbaa
