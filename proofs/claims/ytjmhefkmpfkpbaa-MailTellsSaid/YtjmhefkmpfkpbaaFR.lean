/- Mail: what MailTells needs of other texts -/
import Derived.Test.YtjmhefkmpfkpbaaA
import Derived.Test.YtjmhefkmpfkpbaaB
import Derived.Test.YtjmhefkmpfkpbaaKA
import Derived.Test.YtjmhefkmpfkpbaaLK
import Derived.Test.YtjmhefkmpfkpbaaZR
import Derived.Test.YtjmhefkmpfkpbaaMB
import Derived.Test.YtjmhefkmpfkpbaaMDG
namespace Go.Proofs.Ytjmhefkmpfkpbaa
open Go.Shelf Go.ChangeShapes Go.WideShapes Go.ChangeAt Go.RowKit
set_option linter.unusedSimpArgs false
set_option linter.unusedVariables false
theorem digs_consT (s : Nat) : ∀ n, digs n (s + 1) = ((n / 256 ^ s % 256 : Nat) : Int) :: digs n s := by
  induction s with
  | zero => intro n; simp [digs]
  | succ s ih =>
    intro n
    rw [digs, ih, digs, Nat.div_div_eq_div_mul, Nat.pow_succ, Nat.mul_comm (256 ^ s) 256]
    rfl
set_option maxRecDepth 100000 in
set_option maxHeartbeats 4000000 in
theorem rdigitsT (x s : Nat) (hx : x < 18446744073709551616) (hs : s ≤ 8) (w : World) :
    Calls Try.prog 88 #[.int .u64 x, .int .i64 s] w fun en w' => ∃ A c, en = .returned (.slice A s c) ∧ w'.ownsRow w.heap.size 5 1 (.slice A s c) s (u8s (digs x s)) ∧ Below w.heap.size w w' := by
  obtain ⟨i0, hi0, hz0, hz1, hz2⟩ := info_parts info5
  go_enter Try.func88, Try.ntmps88
  go_wp2
  go_loopw [0, 5, 6] (fun t o i wr => ∃ (k y : Nat) (A : Option Addr) (c : Nat), k ≤ s ∧ y = x / 256 ^ k ∧ t = .int .u64 (y : Int) ∧ o = .slice A k c ∧ i = .int .i64 k ∧ wr.ownsRow w.heap.size 5 1 (.slice A k c) k (u8s (digs x k)) ∧ Below w.heap.size w wr) (fun _ _ i _ => s - (intOf i).toNat)
  case atStart => exact ⟨0, x, none, 0, by omega, by simp, rfl, rfl, rfl, World.ownsRow_nil _ _ _ _, Below.refl _ _⟩
  case round =>
    obtain ⟨k, y, A, c, hk, hy, rfl, rfl, rfl, ho, hB⟩ := hrel
    by_cases hlt : k < s
    · have hy1 : y < 18446744073709551616 := by rw [hy]; exact Nat.lt_of_le_of_lt (Nat.div_le_self _ _) hx
      have hyn := Lib.hid (show y / 256 = x / 256 ^ (k + 1) by rw [hy, Nat.div_div_eq_div_mul, Nat.pow_succ])
      have hdc := Lib.hid (show ((y % 256 : Nat) : Int) :: digs x k = digs x (k + 1) by rw [digs_consT, hy])
      replace hy := Lib.hid hy
      have t1 : (y : Int).tmod 256 = (y : Int) % 256 := Int.tmod_eq_emod_of_nonneg (by omega)
      have t2 : (y : Int).tdiv 256 = (y : Int) / 256 := Int.tdiv_eq_ediv_of_nonneg (by omega)
      have hu8 := u8s_one (digs x k)
      obtain ⟨D, hD⟩ : ∃ D, digs x k = D := ⟨_, rfl⟩
      rw [hD] at ho hu8 hdc
      have hRd := (Reads.of_own ho).alloc (Nat.le_refl _) (.cells #[.int .u8 ((y : Int) % 256)] 5)
      clear hD hx
      have hz := hB.size
      go_wp2_with (at_builtin; refine wpList_append_any _ rfl (.tmp 15) (.tmp 16) _ rfl w.heap.size 5 i0 _ 1 1 Try.underlying34 hi0 hz0 hz1 hz2 rfl (by omega) (.slice (some ⟨wr.heap.size, 0, none⟩) 1 1) 1 [.int .u8 ((y : Int) % 256)] rfl (owns_new wr w.heap.size hz _ 5 1 rfl (by unfold maxLen; omega)) wr.heap.size A k c (u8s D) rfl hRd hu8 (by unfold maxLen; omega) (by omega) (by rw [World.size_alloc]; omega) ?_; intro v1 w1 ho1 hg1 _; have hB1 : Below w.heap.size w w1 := (hB.alloc hz _).grown hg1 (by rw [World.size_alloc]; omega) (by intro q hq; simp [Value.ownBlock] at hq; omega); rw [show 1 + k = k + 1 by omega] at ho1; obtain ⟨A1, c1, rfl, _, _⟩ := own_slice ho1)
      have ho2 : w1.ownsRow w.heap.size 5 1 (.slice A1 (k + 1) c1) (k + 1) (u8s (digs x (k + 1))) := by
        rw [← hdc.out]
        have e : ((y % 256 : Nat) : Int) = (y : Int) % 256 := by omega
        rw [e]
        exact ho1
      clear ho ho1 hRd hg1 hB
      go_wp2
      go_roundw
      case rel => exact ⟨k + 1, y / 256, A1, c1, by omega, hyn.out, by go_num, rfl, by go_num, ho2, hB1⟩
      case measure => simp [intOf] <;> omega
    · obtain rfl : k = s := by omega
      clear hy hx hs
      go_wp2
      go_ret
      exact ⟨A, c, rfl, ho, hB⟩
set_option maxHeartbeats 4000000 in
theorem rofT (A : Option Addr) (n c B : Nat) (l : List Int) (hn : l.length = n) (hm : n ≤ 8) (hb : ∀ b ∈ l, 0 ≤ b ∧ b < 256) (w : World) (hR : Reads w B 1 A n (u8s l)) :
    Calls Try.prog 102 #[.slice A n c] w fun en w' => en = .returned (.int .u64 (numI l)) ∧ w' = w := by
  obtain ⟨N, hN⟩ : ∃ N, numI l = N := ⟨_, rfl⟩
  rw [hN]
  go_enter Try.func102, Try.ntmps102
  go_wp2
  go_loop [3, 4] (fun s i => ∃ k : Nat, k ≤ n ∧ i = .int .i64 k ∧ s = .int .u64 (numI (l.take k))) (fun _ i => n - (intOf i).toNat)
  case atStart => exact ⟨0, by omega, rfl, rfl⟩
  case round =>
    obtain ⟨k, hk, rfl, rfl⟩ := hrel
    by_cases hlt : k < n
    · obtain ⟨ad, rfl, hab, cA⟩ := at_u8 hn hR hlt
      have ht := Lib.hid (numI_take (l := l) (k := k) (by omega))
      have hlt2 := numI_lt hb k (by omega)
      have hb1 := hb _ (show l.getD k 0 ∈ l by rw [List.getD_eq_getElem?_getD, List.getElem?_eq_getElem (by omega)]; exact List.getElem_mem _)
      have h7 : 256 ^ k ≤ 256 ^ 7 := Nat.pow_le_pow_right (by omega) (by omega)
      obtain ⟨x, hx⟩ : ∃ x, l.getD k 0 = x := ⟨_, rfl⟩
      obtain ⟨y, hy⟩ : ∃ y, numI (l.take k) = y := ⟨_, rfl⟩
      rw [hx] at cA ht hb1
      rw [hy] at ht hlt2
      rw [hy]
      obtain ⟨y0, y1⟩ := hlt2
      have y2 : y < 72057594037927936 := by omega
      obtain ⟨x0, x1⟩ := hb1
      have w1 : IntKind.u64.wrap (256 * y) = 256 * y := IntWalk.u64_in _ (by omega)
      have w2 : IntKind.u64.wrap (256 * y + x) = 256 * y + x := IntWalk.u64_in _ (by omega)
      have w3 : IntKind.u64.wrap x = x := IntWalk.u64_in _ (by omega)
      have i1 : (0 : Int) ≤ k := by omega
      have i2 : (k : Int) < n := by omega
      have HN := Lib.hid hN
      clear hx hy h7 hR hn hb hN y1
      go_wp2
      go_round
      case rel => exact ⟨k + 1, by omega, by go_num, by rw [ht.out]⟩
      case measure => simp [intOf]; omega
    · obtain rfl : k = n := by omega
      rw [List.take_of_length_le (by omega), hN]
      clear hR hn hb hN
      go_wp2
      go_ret
      exact ⟨rfl, rfl⟩
theorem blk12T {w : World} {g : Nat} {T : TypeId} {z0 z1 z2 z3 z4 z5 z6 z7 z8 z9 z10 z11 : Value} (h : Blk w g T #[z0, z1, z2, z3, z4, z5, z6, z7, z8, z9, z10, z11]) (u0 u1 u2 u3 u4 u5 u6 u7 u8 u9 u10 u11 : Value) : Blk ((((((((((((w.setCell ⟨g, 0, none⟩ u0).setCell ⟨g, 1, none⟩ u1).setCell ⟨g, 2, none⟩ u2).setCell ⟨g, 3, none⟩ u3).setCell ⟨g, 4, none⟩ u4).setCell ⟨g, 5, none⟩ u5).setCell ⟨g, 6, none⟩ u6).setCell ⟨g, 7, none⟩ u7).setCell ⟨g, 8, none⟩ u8).setCell ⟨g, 9, none⟩ u9).setCell ⟨g, 10, none⟩ u10).setCell ⟨g, 11, none⟩ u11) g T #[u0, u1, u2, u3, u4, u5, u6, u7, u8, u9, u10, u11] := by
  have h1 : Blk _ g T #[u0, z1, z2, z3, z4, z5, z6, z7, z8, z9, z10, z11] := (show _ from by simpa using h.set_ 0 u0)
  have h2 : Blk _ g T #[u0, u1, z2, z3, z4, z5, z6, z7, z8, z9, z10, z11] := (show _ from by simpa using h1.set_ 1 u1)
  have h3 : Blk _ g T #[u0, u1, u2, z3, z4, z5, z6, z7, z8, z9, z10, z11] := (show _ from by simpa using h2.set_ 2 u2)
  have h4 : Blk _ g T #[u0, u1, u2, u3, z4, z5, z6, z7, z8, z9, z10, z11] := (show _ from by simpa using h3.set_ 3 u3)
  have h5 : Blk _ g T #[u0, u1, u2, u3, u4, z5, z6, z7, z8, z9, z10, z11] := (show _ from by simpa using h4.set_ 4 u4)
  have h6 : Blk _ g T #[u0, u1, u2, u3, u4, u5, z6, z7, z8, z9, z10, z11] := (show _ from by simpa using h5.set_ 5 u5)
  have h7 : Blk _ g T #[u0, u1, u2, u3, u4, u5, u6, z7, z8, z9, z10, z11] := (show _ from by simpa using h6.set_ 6 u6)
  have h8 : Blk _ g T #[u0, u1, u2, u3, u4, u5, u6, u7, z8, z9, z10, z11] := (show _ from by simpa using h7.set_ 7 u7)
  have h9 : Blk _ g T #[u0, u1, u2, u3, u4, u5, u6, u7, u8, z9, z10, z11] := (show _ from by simpa using h8.set_ 8 u8)
  have h10 : Blk _ g T #[u0, u1, u2, u3, u4, u5, u6, u7, u8, u9, z10, z11] := (show _ from by simpa using h9.set_ 9 u9)
  have h11 : Blk _ g T #[u0, u1, u2, u3, u4, u5, u6, u7, u8, u9, u10, z11] := (show _ from by simpa using h10.set_ 10 u10)
  have h12 : Blk _ g T #[u0, u1, u2, u3, u4, u5, u6, u7, u8, u9, u10, u11] := (show _ from by simpa using h11.set_ 11 u11)
  exact h12
def TwMT (w : World) (ag0 : Bool) (aX0 : Option Addr) (an0 ac0 : Nat) (ae0 : Int) (ag1 : Bool) (aX1 : Option Addr) (an1 ac1 : Nat) (ae1 : Int) (ag2 : Bool) (aX2 : Option Addr) (an2 ac2 : Nat) (ae2 : Int) (ag3 : Bool) (aX3 : Option Addr) (an3 ac3 : Nat) (ae3 : Int) (m : Ms) (en : Ending) (w' : World) : Prop :=
  ∃ (X0 : Option Addr) (c0 : Nat) (X1 : Option Addr) (c1 : Nat) (X2 : Option Addr) (c2 : Nat) (X3 : Option Addr) (c3 : Nat), en = .returned (.agg #[.bool ag0, .slice X0 an0 c0, .int .i64 ae0, .bool ag1, .slice X1 an1 c1, .int .i64 ae1, .bool ag2, .slice X2 an2 c2, .int .i64 ae2, .bool ag3, .slice X3 an3 c3, .int .i64 ae3]) ∧ (an0 ≤ c0 ∧ OwnR w' w.heap.size 52 X0 an0 (ints .u32 m.s.ls)) ∧ (an1 ≤ c1 ∧ OwnR w' w.heap.size 52 X1 an1 (ints .u32 m.w.ls)) ∧ (an2 ≤ c2 ∧ OwnR w' w.heap.size 52 X2 an2 (ints .u32 m.c.ls)) ∧ (an3 ≤ c3 ∧ OwnR w' w.heap.size 52 X3 an3 (ints .u32 m.a.ls)) ∧ Below w.heap.size w w'
set_option maxHeartbeats 4000000 in
theorem rdtwin_anyT (g : Bool) (X : Option Addr) (n c : Nat) (e : Int) (a : List Nat) (hn : a.length = n) (hm : n ≤ 100000) (w : World) (r1 : Reads w w.heap.size 1 X n (ints .u32 a)) :
    Calls Try.prog 59 #[.agg #[.bool g, .slice X n c, .int .i64 e]] w (TwD w g n e a) := by
  have hB := ((Below.refl w.heap.size w).alloc (Nat.le_refl _) (.cells #[.bool g, .slice X n c, .int .i64 e] 24)).alloc (by simp) (.cells #[.bool false, .slice none 0 0, .int .i64 0] 24)
  have hB1 := (Below.refl w.heap.size w).alloc (Nat.le_refl _) (.cells #[.bool g, .slice X n c, .int .i64 e] 24)
  have k1 := (Blk.new w 24 #[.bool g, .slice X n c, .int .i64 e]).alloc (.cells #[.bool false, .slice none 0 0, .int .i64 0] 24)
  have k2 := Blk.new (w.alloc (.cells #[.bool g, .slice X n c, .int .i64 e] 24)) 24 #[.bool false, .slice none 0 0, .int .i64 0]
  rw [World.size_alloc] at k2
  obtain ⟨i0, hi0, hz0, hz1, hz2⟩ := info_parts infoU32
  obtain ⟨V, hV⟩ : ∃ V, V = ((w.alloc (.cells #[.bool g, .slice X n c, .int .i64 e] 24)).alloc (.cells #[.bool false, .slice none 0 0, .int .i64 0] 24)).alloc (.cells #[] 52) := ⟨_, rfl⟩
  have hown0 : V.ownsRow (w.heap.size + 2) 52 1 (.slice (some ⟨w.heap.size + 2, 0, none⟩) 0 0) 0 [] := by
    have := owns_new ((w.alloc (.cells #[.bool g, .slice X n c, .int .i64 e] 24)).alloc (.cells #[.bool false, .slice none 0 0, .int .i64 0] 24)) (w.heap.size + 2) (by simp) [] 52 0 rfl (Nat.zero_le _)
    rw [World.size_alloc, World.size_alloc] at this
    rw [hV]
    exact this
  have hbV := hB.alloc hB.size (.cells #[] 52)
  rw [← hV] at hbV
  have k1 := k1.alloc (.cells #[] 52)
  have k2 := k2.alloc (.cells #[] 52)
  rw [← hV] at k1 k2
  have rV := r1.below hbV
  have hsV : V.heap.size = w.heap.size + 3 := by rw [hV]; simp
  have e0 := k1.cell 0
  have e1 := k1.cell 1
  have e2 := k1.cell 2
  simp at e0 e1 e2
  have gsV := Lib.hid hsV
  clear r1 hn hsV
  go_enter Try.func59, Try.ntmps59
  go_wp2_with (at_builtin; rw [← hV]; refine wpList_append_any _ rfl (.tmp 3) (.tmp 5) 22 rfl (w.heap.size + 2) 52 i0 _ 1 4 Try.underlying22 hi0 hz0 hz1 hz2 rfl (by omega) (.slice (some ⟨w.heap.size + 2, 0, none⟩) 0 0) 0 [] rfl hown0 w.heap.size X n c (ints .u32 a) rfl rV (ints_one _ _) (by unfold maxLen; omega) (by omega) (by have := gsV.out; omega) ?_; intro v4 w2 ho4 hg4 _; rw [Nat.zero_add, List.nil_append] at ho4; obtain ⟨Ao, co, rfl, hco, ro⟩ := own_slice ho4; have q1 := k1.grown hg4 (by simp [Value.ownBlock]); have q2 := k2.grown hg4 (by simp [Value.ownBlock]); have hb2 := hbV.grown hg4 hbV.size (fun q hq => by simp [Value.ownBlock] at hq; omega); have hs2 : w.heap.size + 2 ≤ w2.heap.size := (by have := hg4.size; have := gsV.out; omega); have ho1 := OwnR.of_row ho4; have hlt := q2.lt; have q1' := q1.set_ 1 (.slice Ao n co); have q2' := q2.far (p := ⟨w.heap.size, 1, none⟩) (by simp) (.slice Ao n co); simp at q1'; have q3 := box3 q2' (.bool g) (.slice Ao n co) (.int .i64 e); have hb3 := box3_below (hb2.setCell (p := ⟨w.heap.size, 1, none⟩) (Nat.le_refl _) (.slice Ao n co)) (Nat.le_succ _) (.bool g) (.slice Ao n co) (.int .i64 e); have ho3 := OwnR.far (OwnR.far (OwnR.far (OwnR.far ho1 (p := ⟨w.heap.size, 1, none⟩) (by simp) (.slice Ao n co)) (p := ⟨w.heap.size + 1, 0, none⟩) (by simp) (.bool g)) (p := ⟨w.heap.size + 1, 1, none⟩) (by simp) (.slice Ao n co)) (p := ⟨w.heap.size + 1, 2, none⟩) (by simp) (.int .i64 e); have ho5 := ho3.base_le (Nat.le_add_right _ 2); have a0 := q1.cell 0; have a1 := q1.cell 1; have a2 := q1.cell 2; simp at a0 a1 a2; have af0 := q1.frozen 0; have af1 := q1.frozen 1; have af2 := q1.frozen 2; have b0 := q2.cell 0; have b1 := q2.cell 1; have b2 := q2.cell 2; simp at b0 b1 b2; have bf0 := q2.frozen 0; have bf1 := q2.frozen 1; have bf2 := q2.frozen 2; have d0 := q1'.cell 0; have d1 := q1'.cell 1; have d2 := q1'.cell 2; simp at d0 d1 d2; have f0 := q2'.cell 0; have f1 := q2'.cell 1; have f2 := q2'.cell 2; simp at f0 f1 f2; have ff0 := q2'.frozen 0; have ff1 := q2'.frozen 1; have ff2 := q2'.frozen 2; have h0 := q3.cell 0; have h1 := q3.cell 1; have h2 := q3.cell 2; simp at h0 h1 h2; clear k1 k2 q1 q2 q1' q2' q3 ho4 ho1 ho3 hg4 hb2 hown0 rV e0 e1 e2 ro)
  refine ⟨rfl, .agg #[.bool g, .slice Ao n co, .int .i64 e], ?_, Ao, co, rfl, hco, ho5, hb3⟩
  simp [results, Try.f59, go_sem, h0, h1, h2]
set_option maxRecDepth 100000 in
set_option maxHeartbeats 8000000 in
theorem rmtwin_anyT (ag0 : Bool) (aX0 : Option Addr) (an0 ac0 : Nat) (ae0 : Int) (ag1 : Bool) (aX1 : Option Addr) (an1 ac1 : Nat) (ae1 : Int) (ag2 : Bool) (aX2 : Option Addr) (an2 ac2 : Nat) (ae2 : Int) (ag3 : Bool) (aX3 : Option Addr) (an3 ac3 : Nat) (ae3 : Int) (m : Ms) (hsm : smM m) (w : World) (ra : RdM w w.heap.size ag0 aX0 an0 ac0 ae0 ag1 aX1 an1 ac1 ae1 ag2 aX2 an2 ac2 ae2 ag3 aX3 an3 ac3 ae3 m) :
    Calls Try.prog 30 #[.agg #[.bool ag0, .slice aX0 an0 ac0, .int .i64 ae0, .bool ag1, .slice aX1 an1 ac1, .int .i64 ae1, .bool ag2, .slice aX2 an2 ac2, .int .i64 ae2, .bool ag3, .slice aX3 an3 ac3, .int .i64 ae3]] w (TwMT w ag0 aX0 an0 ac0 ae0 ag1 aX1 an1 ac1 ae1 ag2 aX2 an2 ac2 ae2 ag3 aX3 an3 ac3 ae3 m) := by
  obtain ⟨V, hV⟩ : ∃ V, V = (w.alloc (.cells #[.bool ag0, .slice aX0 an0 ac0, .int .i64 ae0, .bool ag1, .slice aX1 an1 ac1, .int .i64 ae1, .bool ag2, .slice aX2 an2 ac2, .int .i64 ae2, .bool ag3, .slice aX3 an3 ac3, .int .i64 ae3] 26)).alloc (.cells #[.bool false, .slice none 0 0, .int .i64 0, .bool false, .slice none 0 0, .int .i64 0, .bool false, .slice none 0 0, .int .i64 0, .bool false, .slice none 0 0, .int .i64 0] 26) := ⟨_, rfl⟩
  have hB : Below w.heap.size w V := by rw [hV]; exact ((Below.refl w.heap.size w).alloc (Nat.le_refl _) _).alloc (by simp) _
  have kb : Blk V w.heap.size 26 #[.bool ag0, .slice aX0 an0 ac0, .int .i64 ae0, .bool ag1, .slice aX1 an1 ac1, .int .i64 ae1, .bool ag2, .slice aX2 an2 ac2, .int .i64 ae2, .bool ag3, .slice aX3 an3 ac3, .int .i64 ae3] := by rw [hV]; exact (Blk.new w _ _).alloc _
  have kc : Blk V (w.heap.size + 1) 26 #[.bool false, .slice none 0 0, .int .i64 0, .bool false, .slice none 0 0, .int .i64 0, .bool false, .slice none 0 0, .int .i64 0, .bool false, .slice none 0 0, .int .i64 0] := by
    have := Blk.new (w.alloc (.cells #[.bool ag0, .slice aX0 an0 ac0, .int .i64 ae0, .bool ag1, .slice aX1 an1 ac1, .int .i64 ae1, .bool ag2, .slice aX2 an2 ac2, .int .i64 ae2, .bool ag3, .slice aX3 an3 ac3, .int .i64 ae3] 26)) 26 #[.bool false, .slice none 0 0, .int .i64 0, .bool false, .slice none 0 0, .int .i64 0, .bool false, .slice none 0 0, .int .i64 0, .bool false, .slice none 0 0, .int .i64 0]
    rw [World.size_alloc] at this
    rw [hV]; exact this
  have hsV : V.heap.size = w.heap.size + 2 := by rw [hV]; simp
  have hlV : w.heap.size + 2 ≤ V.heap.size := Nat.le_of_eq hsV.symm
  clear hsV
  have SS : ∀ w', Below (w.heap.size + 1) V w' → w'.cell? ⟨w.heap.size, 0, none⟩ = some (.bool ag0) ∧ w'.cell? ⟨w.heap.size, 1, none⟩ = some (.slice aX0 an0 ac0) ∧ w'.cell? ⟨w.heap.size, 2, none⟩ = some (.int .i64 ae0) ∧ w'.cell? ⟨w.heap.size, 3, none⟩ = some (.bool ag1) ∧ w'.cell? ⟨w.heap.size, 4, none⟩ = some (.slice aX1 an1 ac1) ∧ w'.cell? ⟨w.heap.size, 5, none⟩ = some (.int .i64 ae1) ∧ w'.cell? ⟨w.heap.size, 6, none⟩ = some (.bool ag2) ∧ w'.cell? ⟨w.heap.size, 7, none⟩ = some (.slice aX2 an2 ac2) ∧ w'.cell? ⟨w.heap.size, 8, none⟩ = some (.int .i64 ae2) ∧ w'.cell? ⟨w.heap.size, 9, none⟩ = some (.bool ag3) ∧ w'.cell? ⟨w.heap.size, 10, none⟩ = some (.slice aX3 an3 ac3) ∧ w'.cell? ⟨w.heap.size, 11, none⟩ = some (.int .i64 ae3) := by
    intro w' hw
    have k5 := kb.below hw (by omega)
    have c0 := k5.cell 0
    have c1 := k5.cell 1
    have c2 := k5.cell 2
    have c3 := k5.cell 3
    have c4 := k5.cell 4
    have c5 := k5.cell 5
    have c6 := k5.cell 6
    have c7 := k5.cell 7
    have c8 := k5.cell 8
    have c9 := k5.cell 9
    have c10 := k5.cell 10
    have c11 := k5.cell 11
    simp only [lgA, lgZ, lgS] at c0 c1 c2 c3 c4 c5 c6 c7 c8 c9 c10 c11
    exact ⟨c0, c1, c2, c3, c4, c5, c6, c7, c8, c9, c10, c11⟩
  obtain ⟨ea1, ea2, ea3, ea4, ra0⟩ := ra.1
  have hc0 := fun w' (h : Below V.heap.size V w') => rdtwin_anyT ag0 aX0 an0 ac0 ae0 m.s.ls ea3 (by rw [← ea3]; exact hsm.1) w' ((ra0.below (hB.trans (h.mono hB.size))).more (hB.trans (h.mono hB.size)).size)
  clear ea1 ea2 ea3 ea4
  obtain ⟨ea1, ea2, ea3, ea4, ra1⟩ := ra.2.1
  have hc1 := fun w' (h : Below V.heap.size V w') => rdtwin_anyT ag1 aX1 an1 ac1 ae1 m.w.ls ea3 (by rw [← ea3]; exact hsm.2.1) w' ((ra1.below (hB.trans (h.mono hB.size))).more (hB.trans (h.mono hB.size)).size)
  clear ea1 ea2 ea3 ea4
  obtain ⟨ea1, ea2, ea3, ea4, ra2⟩ := ra.2.2.1
  have hc2 := fun w' (h : Below V.heap.size V w') => rdtwin_anyT ag2 aX2 an2 ac2 ae2 m.c.ls ea3 (by rw [← ea3]; exact hsm.2.2.1) w' ((ra2.below (hB.trans (h.mono hB.size))).more (hB.trans (h.mono hB.size)).size)
  clear ea1 ea2 ea3 ea4
  obtain ⟨ea1, ea2, ea3, ea4, ra3⟩ := ra.2.2.2
  have hc3 := fun w' (h : Below V.heap.size V w') => rdtwin_anyT ag3 aX3 an3 ac3 ae3 m.a.ls ea3 (by rw [← ea3]; exact hsm.2.2.2) w' ((ra3.below (hB.trans (h.mono hB.size))).more (hB.trans (h.mono hB.size)).size)
  clear ea1 ea2 ea3 ea4
  clear ra ra0 ra1 ra2 ra3 hsm
  obtain ⟨z0, z1, z2, z3, z4, z5, z6, z7, z8, z9, z10, z11⟩ := SS V (Below.refl _ _)
  have h0 : Below V.heap.size V V := Below.refl _ _
  go_enter Try.func30, Try.ntmps30
  go_wp2_with fail
  rw [← hV]
  clear hV
  go_region_held3 (fun w' => w'.cell? ⟨w.heap.size, 0, none⟩ = some (.bool ag0) ∧ w'.cell? ⟨w.heap.size, 1, none⟩ = some (.slice aX0 an0 ac0) ∧ w'.cell? ⟨w.heap.size, 2, none⟩ = some (.int .i64 ae0) ∧ w'.cell? ⟨w.heap.size, 3, none⟩ = some (.bool ag1) ∧ w'.cell? ⟨w.heap.size, 4, none⟩ = some (.slice aX1 an1 ac1) ∧ w'.cell? ⟨w.heap.size, 5, none⟩ = some (.int .i64 ae1) ∧ w'.cell? ⟨w.heap.size, 6, none⟩ = some (.bool ag2) ∧ w'.cell? ⟨w.heap.size, 7, none⟩ = some (.slice aX2 an2 ac2) ∧ w'.cell? ⟨w.heap.size, 8, none⟩ = some (.int .i64 ae2) ∧ w'.cell? ⟨w.heap.size, 9, none⟩ = some (.bool ag3) ∧ w'.cell? ⟨w.heap.size, 10, none⟩ = some (.slice aX3 an3 ac3) ∧ w'.cell? ⟨w.heap.size, 11, none⟩ = some (.int .i64 ae3)) ((refine SS _ ?_; (repeat first | with_reducible assumption | with_reducible exact Below.refl _ _ | with_reducible refine Below.drew ?_ | (with_reducible refine Below.setCell ?_ (by first | exact Nat.le_refl _ | (simp only [World.size_alloc, World.size_drew]; omega) | omega) _) | (with_reducible refine Below.alloc ?_ (by first | exact Nat.le_refl _ | (simp only [World.size_alloc, World.size_drew]; omega) | omega) _)))) (first | (go_at_call 59; (with_reducible refine (hc0 _ (by (repeat first | with_reducible assumption | with_reducible exact Below.refl _ _ | with_reducible refine Below.drew ?_ | (with_reducible refine Below.setCell ?_ (by first | exact Nat.le_refl _ | (simp only [World.size_alloc, World.size_drew]; omega) | omega) _) | (with_reducible refine Below.alloc ?_ (by first | exact Nat.le_refl _ | (simp only [World.size_alloc, World.size_drew]; omega) | omega) _)))).mono ?_); rintro en w1 ⟨X0, c0, rfl, hco0, ho0, hb0⟩; have hb0V : Below V.heap.size V w1 := Below.trans (by (repeat first | with_reducible assumption | with_reducible exact Below.refl _ _ | with_reducible refine Below.drew ?_ | (with_reducible refine Below.setCell ?_ (by first | exact Nat.le_refl _ | (simp only [World.size_alloc, World.size_drew]; omega) | omega) _) | (with_reducible refine Below.alloc ?_ (by first | exact Nat.le_refl _ | (simp only [World.size_alloc, World.size_drew]; omega) | omega) _))) (hb0.mono (by first | exact Nat.le_refl _ | (simp only [World.size_alloc, World.size_drew]; omega) | omega)); have hs0 := hb0V.size; have hw0 : Below (w.heap.size + 1) V w1 := hb0V.mono (by omega)) | (go_at_call 59; (with_reducible refine (hc1 _ (by (repeat first | with_reducible assumption | with_reducible exact Below.refl _ _ | with_reducible refine Below.drew ?_ | (with_reducible refine Below.setCell ?_ (by first | exact Nat.le_refl _ | (simp only [World.size_alloc, World.size_drew]; omega) | omega) _) | (with_reducible refine Below.alloc ?_ (by first | exact Nat.le_refl _ | (simp only [World.size_alloc, World.size_drew]; omega) | omega) _)))).mono ?_); rintro en w2 ⟨X1, c1, rfl, hco1, ho1, hb1⟩; have hb1V : Below V.heap.size V w2 := Below.trans (by (repeat first | with_reducible assumption | with_reducible exact Below.refl _ _ | with_reducible refine Below.drew ?_ | (with_reducible refine Below.setCell ?_ (by first | exact Nat.le_refl _ | (simp only [World.size_alloc, World.size_drew]; omega) | omega) _) | (with_reducible refine Below.alloc ?_ (by first | exact Nat.le_refl _ | (simp only [World.size_alloc, World.size_drew]; omega) | omega) _))) (hb1.mono (by first | exact Nat.le_refl _ | (simp only [World.size_alloc, World.size_drew]; omega) | omega)); have hs1 := hb1V.size; have hw1 : Below (w.heap.size + 1) V w2 := hb1V.mono (by omega)) | (go_at_call 59; (with_reducible refine (hc2 _ (by (repeat first | with_reducible assumption | with_reducible exact Below.refl _ _ | with_reducible refine Below.drew ?_ | (with_reducible refine Below.setCell ?_ (by first | exact Nat.le_refl _ | (simp only [World.size_alloc, World.size_drew]; omega) | omega) _) | (with_reducible refine Below.alloc ?_ (by first | exact Nat.le_refl _ | (simp only [World.size_alloc, World.size_drew]; omega) | omega) _)))).mono ?_); rintro en w3 ⟨X2, c2, rfl, hco2, ho2, hb2⟩; have hb2V : Below V.heap.size V w3 := Below.trans (by (repeat first | with_reducible assumption | with_reducible exact Below.refl _ _ | with_reducible refine Below.drew ?_ | (with_reducible refine Below.setCell ?_ (by first | exact Nat.le_refl _ | (simp only [World.size_alloc, World.size_drew]; omega) | omega) _) | (with_reducible refine Below.alloc ?_ (by first | exact Nat.le_refl _ | (simp only [World.size_alloc, World.size_drew]; omega) | omega) _))) (hb2.mono (by first | exact Nat.le_refl _ | (simp only [World.size_alloc, World.size_drew]; omega) | omega)); have hs2 := hb2V.size; have hw2 : Below (w.heap.size + 1) V w3 := hb2V.mono (by omega)) | (go_at_call 59; (with_reducible refine (hc3 _ (by (repeat first | with_reducible assumption | with_reducible exact Below.refl _ _ | with_reducible refine Below.drew ?_ | (with_reducible refine Below.setCell ?_ (by first | exact Nat.le_refl _ | (simp only [World.size_alloc, World.size_drew]; omega) | omega) _) | (with_reducible refine Below.alloc ?_ (by first | exact Nat.le_refl _ | (simp only [World.size_alloc, World.size_drew]; omega) | omega) _)))).mono ?_); rintro en w4 ⟨X3, c3, rfl, hco3, ho3, hb3⟩; have hb3V : Below V.heap.size V w4 := Below.trans (by (repeat first | with_reducible assumption | with_reducible exact Below.refl _ _ | with_reducible refine Below.drew ?_ | (with_reducible refine Below.setCell ?_ (by first | exact Nat.le_refl _ | (simp only [World.size_alloc, World.size_drew]; omega) | omega) _) | (with_reducible refine Below.alloc ?_ (by first | exact Nat.le_refl _ | (simp only [World.size_alloc, World.size_drew]; omega) | omega) _))) (hb3.mono (by first | exact Nat.le_refl _ | (simp only [World.size_alloc, World.size_drew]; omega) | omega)); have hs3 := hb3V.size; have hw3 : Below (w.heap.size + 1) V w4 := hb3V.mono (by omega); have kc4 := kc.below hb3V kc.lt; have y0 := kc4.cell 0; have y1 := kc4.cell 1; have y2 := kc4.cell 2; have y3 := kc4.cell 3; have y4 := kc4.cell 4; have y5 := kc4.cell 5; have y6 := kc4.cell 6; have y7 := kc4.cell 7; have y8 := kc4.cell 8; have y9 := kc4.cell 9; have y10 := kc4.cell 10; have y11 := kc4.cell 11; simp only [lgA, lgZ, lgS] at y0 y1 y2 y3 y4 y5 y6 y7 y8 y9 y10 y11; have yf0 := kc4.frozen 0; have yf1 := kc4.frozen 1; have yf2 := kc4.frozen 2; have yf3 := kc4.frozen 3; have yf4 := kc4.frozen 4; have yf5 := kc4.frozen 5; have yf6 := kc4.frozen 6; have yf7 := kc4.frozen 7; have yf8 := kc4.frozen 8; have yf9 := kc4.frozen 9; have yf10 := kc4.frozen 10; have yf11 := kc4.frozen 11))
  clear z0 z1 z2 z3 z4 z5 z6 z7 z8 z9 z10 z11 hc0 hc1 hc2 hc3 SS kb
  have B5 : Blk ((((((((((((w4.setCell ⟨w.heap.size + 1, 0, none⟩ (.bool ag0)).setCell ⟨w.heap.size + 1, 1, none⟩ (.slice X0 an0 c0)).setCell ⟨w.heap.size + 1, 2, none⟩ (.int .i64 ae0)).setCell ⟨w.heap.size + 1, 3, none⟩ (.bool ag1)).setCell ⟨w.heap.size + 1, 4, none⟩ (.slice X1 an1 c1)).setCell ⟨w.heap.size + 1, 5, none⟩ (.int .i64 ae1)).setCell ⟨w.heap.size + 1, 6, none⟩ (.bool ag2)).setCell ⟨w.heap.size + 1, 7, none⟩ (.slice X2 an2 c2)).setCell ⟨w.heap.size + 1, 8, none⟩ (.int .i64 ae2)).setCell ⟨w.heap.size + 1, 9, none⟩ (.bool ag3)).setCell ⟨w.heap.size + 1, 10, none⟩ (.slice X3 an3 c3)).setCell ⟨w.heap.size + 1, 11, none⟩ (.int .i64 ae3)) (w.heap.size + 1) 26 #[.bool ag0, .slice X0 an0 c0, .int .i64 ae0, .bool ag1, .slice X1 an1 c1, .int .i64 ae1, .bool ag2, .slice X2 an2 c2, .int .i64 ae2, .bool ag3, .slice X3 an3 c3, .int .i64 ae3] := blk12T kc4 (.bool ag0) (.slice X0 an0 c0) (.int .i64 ae0) (.bool ag1) (.slice X1 an1 c1) (.int .i64 ae1) (.bool ag2) (.slice X2 an2 c2) (.int .i64 ae2) (.bool ag3) (.slice X3 an3 c3) (.int .i64 ae3)
  have q0 := B5.cell 0
  have q1 := B5.cell 1
  have q2 := B5.cell 2
  have q3 := B5.cell 3
  have q4 := B5.cell 4
  have q5 := B5.cell 5
  have q6 := B5.cell 6
  have q7 := B5.cell 7
  have q8 := B5.cell 8
  have q9 := B5.cell 9
  have q10 := B5.cell 10
  have q11 := B5.cell 11
  simp only [lgA, lgZ, lgS] at q0 q1 q2 q3 q4 q5 q6 q7 q8 q9 q10 q11
  have hb9 : Below w.heap.size w w4 := hB.trans (hb3V.mono hB.size)
  have hb10 : Below w.heap.size w ((((((((((((w4.setCell ⟨w.heap.size + 1, 0, none⟩ (.bool ag0)).setCell ⟨w.heap.size + 1, 1, none⟩ (.slice X0 an0 c0)).setCell ⟨w.heap.size + 1, 2, none⟩ (.int .i64 ae0)).setCell ⟨w.heap.size + 1, 3, none⟩ (.bool ag1)).setCell ⟨w.heap.size + 1, 4, none⟩ (.slice X1 an1 c1)).setCell ⟨w.heap.size + 1, 5, none⟩ (.int .i64 ae1)).setCell ⟨w.heap.size + 1, 6, none⟩ (.bool ag2)).setCell ⟨w.heap.size + 1, 7, none⟩ (.slice X2 an2 c2)).setCell ⟨w.heap.size + 1, 8, none⟩ (.int .i64 ae2)).setCell ⟨w.heap.size + 1, 9, none⟩ (.bool ag3)).setCell ⟨w.heap.size + 1, 10, none⟩ (.slice X3 an3 c3)).setCell ⟨w.heap.size + 1, 11, none⟩ (.int .i64 ae3)) := Below.setCell (p := ⟨w.heap.size + 1, 11, none⟩) (Below.setCell (p := ⟨w.heap.size + 1, 10, none⟩) (Below.setCell (p := ⟨w.heap.size + 1, 9, none⟩) (Below.setCell (p := ⟨w.heap.size + 1, 8, none⟩) (Below.setCell (p := ⟨w.heap.size + 1, 7, none⟩) (Below.setCell (p := ⟨w.heap.size + 1, 6, none⟩) (Below.setCell (p := ⟨w.heap.size + 1, 5, none⟩) (Below.setCell (p := ⟨w.heap.size + 1, 4, none⟩) (Below.setCell (p := ⟨w.heap.size + 1, 3, none⟩) (Below.setCell (p := ⟨w.heap.size + 1, 2, none⟩) (Below.setCell (p := ⟨w.heap.size + 1, 1, none⟩) (Below.setCell (p := ⟨w.heap.size + 1, 0, none⟩) (hb9) (by simp) _) (by simp) _) (by simp) _) (by simp) _) (by simp) _) (by simp) _) (by simp) _) (by simp) _) (by simp) _) (by simp) _) (by simp) _) (by simp) _
  have hof : ∀ {n : Nat} {X : Option Addr} {xs : List Value}, OwnR w4 V.heap.size 52 X n xs → OwnR ((((((((((((w4.setCell ⟨w.heap.size + 1, 0, none⟩ (.bool ag0)).setCell ⟨w.heap.size + 1, 1, none⟩ (.slice X0 an0 c0)).setCell ⟨w.heap.size + 1, 2, none⟩ (.int .i64 ae0)).setCell ⟨w.heap.size + 1, 3, none⟩ (.bool ag1)).setCell ⟨w.heap.size + 1, 4, none⟩ (.slice X1 an1 c1)).setCell ⟨w.heap.size + 1, 5, none⟩ (.int .i64 ae1)).setCell ⟨w.heap.size + 1, 6, none⟩ (.bool ag2)).setCell ⟨w.heap.size + 1, 7, none⟩ (.slice X2 an2 c2)).setCell ⟨w.heap.size + 1, 8, none⟩ (.int .i64 ae2)).setCell ⟨w.heap.size + 1, 9, none⟩ (.bool ag3)).setCell ⟨w.heap.size + 1, 10, none⟩ (.slice X3 an3 c3)).setCell ⟨w.heap.size + 1, 11, none⟩ (.int .i64 ae3)) w.heap.size 52 X n xs := fun h => OwnR.base_le (OwnR.far (p := ⟨w.heap.size + 1, 11, none⟩) (OwnR.far (p := ⟨w.heap.size + 1, 10, none⟩) (OwnR.far (p := ⟨w.heap.size + 1, 9, none⟩) (OwnR.far (p := ⟨w.heap.size + 1, 8, none⟩) (OwnR.far (p := ⟨w.heap.size + 1, 7, none⟩) (OwnR.far (p := ⟨w.heap.size + 1, 6, none⟩) (OwnR.far (p := ⟨w.heap.size + 1, 5, none⟩) (OwnR.far (p := ⟨w.heap.size + 1, 4, none⟩) (OwnR.far (p := ⟨w.heap.size + 1, 3, none⟩) (OwnR.far (p := ⟨w.heap.size + 1, 2, none⟩) (OwnR.far (p := ⟨w.heap.size + 1, 1, none⟩) (OwnR.far (p := ⟨w.heap.size + 1, 0, none⟩) (h) (by simp; omega) _) (by simp; omega) _) (by simp; omega) _) (by simp; omega) _) (by simp; omega) _) (by simp; omega) _) (by simp; omega) _) (by simp; omega) _) (by simp; omega) _) (by simp; omega) _) (by simp; omega) _) (by simp; omega) _) (by omega)
  have o3 := hof (ho3.base_le hs2)
  have o2 := hof ((ho2.below hb3).base_le hs1)
  have o1 := hof (((ho1.below hb2).below hb3).base_le hs0)
  have o0 := hof (((ho0.below hb1).below hb2).below hb3)
  clear hof B5 y0 yf0 y1 yf1 y2 yf2 y3 yf3 y4 yf4 y5 yf5 y6 yf6 y7 yf7 y8 yf8 y9 yf9 y10 yf10 y11 yf11 kc kc4 hb0 hb1 hb2 hb3 hb0V hb1V hb2V hb3V hw0 hw1 hw2 hw3
  go_wp2
  refine ⟨rfl, .agg #[.bool ag0, .slice X0 an0 c0, .int .i64 ae0, .bool ag1, .slice X1 an1 c1, .int .i64 ae1, .bool ag2, .slice X2 an2 c2, .int .i64 ae2, .bool ag3, .slice X3 an3 c3, .int .i64 ae3], ?_, X0, c0, X1, c1, X2, c2, X3, c3, rfl, ⟨hco0, o0⟩, ⟨hco1, o1⟩, ⟨hco2, o2⟩, ⟨hco3, o3⟩, hb10⟩
  simp [results, Try.f30, go_sem, q0, q1, q2, q3, q4, q5, q6, q7, q8, q9, q10, q11]
set_option maxHeartbeats 4000000 in
theorem rlimbs_sameT (A A2 : Option Addr) (n n2 c c2 B B2 : Nat) (a b : List Nat) (hn : a.length = n) (hn2 : b.length = n2) (hm : n ≤ 100000) (hm2 : n2 ≤ 100000) (w : World) (hR : Reads w B 1 A n (ints .u32 a)) (hR2 : Reads w B2 1 A2 n2 (ints .u32 b)) :
    Calls Try.prog 98 #[.slice A n c, .slice A2 n2 c2] w fun en w' => en = .returned (.bool (decide (a = b))) ∧ ∃ m, w' = w.drewN m := by
  by_cases hlen : n = n2
  · subst hlen
    have no : ∀ k, k < n → a.getD k 0 ≠ b.getD k 0 → decide (a = b) = false := fun k _ h => decide_eq_false (fun e => h (by rw [e]))
    have yes : (∀ k, k < n → a.getD k 0 = b.getD k 0) → decide (a = b) = true := fun h => decide_eq_true (by
      apply List.ext_getElem (by omega)
      intro i h1 h2
      have := h i (by omega)
      rw [List.getD_eq_getElem?_getD, List.getD_eq_getElem?_getD, List.getElem?_eq_getElem h1, List.getElem?_eq_getElem h2] at this
      exact this)
    obtain ⟨R, hRr⟩ : ∃ R, decide (a = b) = R := ⟨_, rfl⟩
    rw [hRr] at no yes ⊢
    have gno := Lib.hid no
    have gyes := Lib.hid yes
    have gn := Lib.hid hn
    have gn2 := Lib.hid hn2
    have t1 : ((n : Int) != n) = false := by simp
    clear no yes hRr hn hn2
    go_enter Try.func98, Try.ntmps98
    go_wp2
    go_loopw [5] (fun t wr => ∃ k m : Nat, k ≤ n ∧ t = .int .i64 (k : Int) ∧ Hid (∀ j, j < k → a.getD j 0 = b.getD j 0) ∧ wr = w.drewN m) (fun t _ => n - (intOf t).toNat)
    case atStart => exact ⟨0, 0, Nat.zero_le _, rfl, Lib.hid (fun j h1 => by omega), rfl⟩
    case round =>
      obtain ⟨k, m, hk, rfl, h0, rfl⟩ := hrel
      by_cases hlt : k < n
      · obtain ⟨ad, rfl, hab, cA⟩ := at_ints gn.out hR hlt
        obtain ⟨ad2, rfl, hab2, cA2⟩ := at_ints gn2.out hR2 hlt
        have i1 : (0 : Int) ≤ k := by omega
        have i2 : (k : Int) < n := by omega
        obtain ⟨x, hx⟩ : ∃ x, a.getD k 0 = x := ⟨_, rfl⟩
        obtain ⟨y, hy⟩ : ∃ y, b.getD k 0 = y := ⟨_, rfl⟩
        rw [hx] at cA
        rw [hy] at cA2
        by_cases h : x = y
        · subst h
          have h0' : Hid (∀ i, i < k + 1 → a.getD i 0 = b.getD i 0) := Lib.hid (fun i h1 => by
            rcases Nat.lt_or_ge i k with h3 | h3
            · exact h0.out i h3
            · rw [show i = k by omega, hx, hy])
          have t2 : ((x : Int) != x) = false := by simp
          clear hx hy hR hR2 gno gyes h0 gn gn2
          go_wp2_with fail
          go_quiet (fail)
          go_wp2
          go_roundw
          case rel => exact ⟨k + 1, _, by omega, by go_num, h0', rfl⟩
          case measure => simp [intOf] <;> omega
        · obtain rfl := gno.out k hlt (by rw [hx, hy]; exact h)
          have t2 : ((x : Int) != y) = true := by simp; omega
          have t4 : (x != y) = true := by simp; omega
          clear hx hy hR hR2 gyes h0 gn gn2 gno
          go_wp2_with fail
          go_quiet (fail)
          go_wp2
          go_ret
          refine ⟨rfl, ?_⟩
          simp only [World.drewN_drewN]
          exact ⟨_, rfl⟩
      · obtain rfl : k = n := by omega
        obtain rfl := gyes.out h0.out
        clear hR hR2 gno gyes h0 gn gn2
        go_wp2
        go_ret
        exact ⟨rfl, m, rfl⟩
  · rw [decide_eq_false (show ¬ a = b from fun e => hlen (by rw [← hn, ← hn2, e]))]
    have t1 : ((n : Int) != n2) = true := by simp; omega
    have t2 : (n != n2) = true := by simpa using hlen
    clear hR hR2 hn hn2
    go_enter Try.func98, Try.ntmps98
    go_wp2
    go_ret
    exact ⟨rfl, 0, rfl⟩
set_option maxHeartbeats 4000000 in
theorem rdsame_anyT (g g2 : Bool) (X X2 : Option Addr) (n n2 c c2 : Nat) (e e2 : Int) (a b : List Nat) (hn : a.length = n) (hn2 : b.length = n2) (hm : n ≤ 100000) (hm2 : n2 ≤ 100000) (R : Bool) (hR : decide ((⟨g, a, e⟩ : Dy) = ⟨g2, b, e2⟩) = R) (w : World) (r1 : Reads w w.heap.size 1 X n (ints .u32 a)) (r2 : Reads w w.heap.size 1 X2 n2 (ints .u32 b)) :
    Calls Try.prog 79 #[.agg #[.bool g, .slice X n c, .int .i64 e], .agg #[.bool g2, .slice X2 n2 c2, .int .i64 e2]] w fun en w' => en = .returned (.bool R) ∧ Below w.heap.size w w' := by
  have hB := ((Below.refl w.heap.size w).alloc (Nat.le_refl _) (.cells #[.bool g, .slice X n c, .int .i64 e] 24)).alloc (by simp) (.cells #[.bool g2, .slice X2 n2 c2, .int .i64 e2] 24)
  by_cases hg : g = g2
  rotate_left
  · have hf : decide ((⟨g, a, e⟩ : Dy) = ⟨g2, b, e2⟩) = false := decide_eq_false (fun h => hg (by injection h))
    obtain rfl := hf.symm.trans hR
    have t1 : (g == g2) = false := beq_eq_false_iff_ne.2 hg
    clear hf hR hg r1 r2 hn hn2
    go_enter Try.func79, Try.ntmps79
    go_wp2
    go_ret
    exact ⟨rfl, hB⟩
  by_cases he : e = e2
  rotate_left
  · have hf : decide ((⟨g, a, e⟩ : Dy) = ⟨g2, b, e2⟩) = false := decide_eq_false (fun h => he (by injection h))
    obtain rfl := hf.symm.trans hR
    have t1 : (g == g2) = true := beq_iff_eq.2 hg
    have t2 : (e == e2) = false := beq_eq_false_iff_ne.2 he
    clear hf hR he r1 r2 hn hn2 hg
    go_enter Try.func79, Try.ntmps79
    go_wp2
    go_ret
    exact ⟨rfl, hB⟩
  have hf : decide ((⟨g, a, e⟩ : Dy) = ⟨g2, b, e2⟩) = decide (a = b) := by rw [hg, he]; simp
  rw [hf] at hR
  have t1 : (g == g2) = true := beq_iff_eq.2 hg
  have t2 : (e == e2) = true := beq_iff_eq.2 he
  have hl := fun w' (h : Below w.heap.size w w') => rlimbs_sameT X X2 n n2 c c2 w'.heap.size w'.heap.size a b hn hn2 hm hm2 w' ((r1.below h).more h.size) ((r2.below h).more h.size)
  simp only [hR] at hl
  have hl2 := hl _ hB
  clear hf hR hg he hl r1 r2 hn hn2
  go_enter Try.func79, Try.ntmps79
  go_wp2_with (go_at_call 98; refine hl2.mono ?_; rintro en w' ⟨rfl, q, rfl⟩)
  go_ret
  exact ⟨rfl, below_drewN hB q⟩
set_option maxHeartbeats 8000000 in
theorem rmsame_anyT (ag0 : Bool) (aX0 : Option Addr) (an0 ac0 : Nat) (ae0 : Int) (ag1 : Bool) (aX1 : Option Addr) (an1 ac1 : Nat) (ae1 : Int) (ag2 : Bool) (aX2 : Option Addr) (an2 ac2 : Nat) (ae2 : Int) (ag3 : Bool) (aX3 : Option Addr) (an3 ac3 : Nat) (ae3 : Int) (bg0 : Bool) (bX0 : Option Addr) (bn0 bc0 : Nat) (be0 : Int) (bg1 : Bool) (bX1 : Option Addr) (bn1 bc1 : Nat) (be1 : Int) (bg2 : Bool) (bX2 : Option Addr) (bn2 bc2 : Nat) (be2 : Int) (bg3 : Bool) (bX3 : Option Addr) (bn3 bc3 : Nat) (be3 : Int) (m k : Ms) (hsm : smM m) (hsk : smM k) (w : World) (ra : RdM w w.heap.size ag0 aX0 an0 ac0 ae0 ag1 aX1 an1 ac1 ae1 ag2 aX2 an2 ac2 ae2 ag3 aX3 an3 ac3 ae3 m) (rb : RdM w w.heap.size bg0 bX0 bn0 bc0 be0 bg1 bX1 bn1 bc1 be1 bg2 bX2 bn2 bc2 be2 bg3 bX3 bn3 bc3 be3 k) (R : Bool) (hR : decide (m = k) = R) :
    Calls Try.prog 46 #[.agg #[.bool ag0, .slice aX0 an0 ac0, .int .i64 ae0, .bool ag1, .slice aX1 an1 ac1, .int .i64 ae1, .bool ag2, .slice aX2 an2 ac2, .int .i64 ae2, .bool ag3, .slice aX3 an3 ac3, .int .i64 ae3], .agg #[.bool bg0, .slice bX0 bn0 bc0, .int .i64 be0, .bool bg1, .slice bX1 bn1 bc1, .int .i64 be1, .bool bg2, .slice bX2 bn2 bc2, .int .i64 be2, .bool bg3, .slice bX3 bn3 bc3, .int .i64 be3]] w fun en w' => en = .returned (.bool R) ∧ Below w.heap.size w w' := by
  obtain ⟨V, hV⟩ : ∃ V, V = (w.alloc (.cells #[.bool ag0, .slice aX0 an0 ac0, .int .i64 ae0, .bool ag1, .slice aX1 an1 ac1, .int .i64 ae1, .bool ag2, .slice aX2 an2 ac2, .int .i64 ae2, .bool ag3, .slice aX3 an3 ac3, .int .i64 ae3] 26)).alloc (.cells #[.bool bg0, .slice bX0 bn0 bc0, .int .i64 be0, .bool bg1, .slice bX1 bn1 bc1, .int .i64 be1, .bool bg2, .slice bX2 bn2 bc2, .int .i64 be2, .bool bg3, .slice bX3 bn3 bc3, .int .i64 be3] 26) := ⟨_, rfl⟩
  have hB : Below w.heap.size w V := by rw [hV]; exact ((Below.refl w.heap.size w).alloc (Nat.le_refl _) _).alloc (by simp) _
  have kb : Blk V w.heap.size 26 #[.bool ag0, .slice aX0 an0 ac0, .int .i64 ae0, .bool ag1, .slice aX1 an1 ac1, .int .i64 ae1, .bool ag2, .slice aX2 an2 ac2, .int .i64 ae2, .bool ag3, .slice aX3 an3 ac3, .int .i64 ae3] := by rw [hV]; exact (Blk.new w _ _).alloc _
  have kc : Blk V (w.heap.size + 1) 26 #[.bool bg0, .slice bX0 bn0 bc0, .int .i64 be0, .bool bg1, .slice bX1 bn1 bc1, .int .i64 be1, .bool bg2, .slice bX2 bn2 bc2, .int .i64 be2, .bool bg3, .slice bX3 bn3 bc3, .int .i64 be3] := by
    have := Blk.new (w.alloc (.cells #[.bool ag0, .slice aX0 an0 ac0, .int .i64 ae0, .bool ag1, .slice aX1 an1 ac1, .int .i64 ae1, .bool ag2, .slice aX2 an2 ac2, .int .i64 ae2, .bool ag3, .slice aX3 an3 ac3, .int .i64 ae3] 26)) 26 #[.bool bg0, .slice bX0 bn0 bc0, .int .i64 be0, .bool bg1, .slice bX1 bn1 bc1, .int .i64 be1, .bool bg2, .slice bX2 bn2 bc2, .int .i64 be2, .bool bg3, .slice bX3 bn3 bc3, .int .i64 be3]
    rw [World.size_alloc] at this
    rw [hV]; exact this
  have hms : (m = k) ↔ (prt m 0 = prt k 0 ∧ prt m 1 = prt k 1 ∧ prt m 2 = prt k 2 ∧ prt m 3 = prt k 3) := ⟨fun h => by rw [h]; exact ⟨rfl, rfl, rfl, rfl⟩, fun ⟨a, b, c, d⟩ => ms_eq (fun i hi => match i, hi with | 0, _ => a | 1, _ => b | 2, _ => c | 3, _ => d)⟩
  obtain ⟨Q0, hQ0⟩ : ∃ Q, decide (prt m 0 = prt k 0) = Q := ⟨_, rfl⟩
  obtain ⟨ea1, ea2, ea3, ea4, ra0⟩ := ra.1
  obtain ⟨eb1, eb2, eb3, eb4, rb0⟩ := rb.1
  have hc0 := fun w' (h : Below V.heap.size V w') => rdsame_anyT ag0 bg0 aX0 bX0 an0 bn0 ac0 bc0 ae0 be0 m.s.ls k.s.ls ea3 eb3 (by rw [← ea3]; exact hsm.1) (by rw [← eb3]; exact hsk.1) Q0 (by rw [← hQ0]; simp only [prt]; rw [← ea1, ← ea2, ← eb1, ← eb2]) w' ((ra0.below (hB.trans (h.mono hB.size))).more (hB.trans (h.mono hB.size)).size) ((rb0.below (hB.trans (h.mono hB.size))).more (hB.trans (h.mono hB.size)).size)
  clear ea1 ea2 ea3 ea4 eb1 eb2 eb3 eb4
  obtain ⟨Q1, hQ1⟩ : ∃ Q, decide (prt m 1 = prt k 1) = Q := ⟨_, rfl⟩
  obtain ⟨ea1, ea2, ea3, ea4, ra1⟩ := ra.2.1
  obtain ⟨eb1, eb2, eb3, eb4, rb1⟩ := rb.2.1
  have hc1 := fun w' (h : Below V.heap.size V w') => rdsame_anyT ag1 bg1 aX1 bX1 an1 bn1 ac1 bc1 ae1 be1 m.w.ls k.w.ls ea3 eb3 (by rw [← ea3]; exact hsm.2.1) (by rw [← eb3]; exact hsk.2.1) Q1 (by rw [← hQ1]; simp only [prt]; rw [← ea1, ← ea2, ← eb1, ← eb2]) w' ((ra1.below (hB.trans (h.mono hB.size))).more (hB.trans (h.mono hB.size)).size) ((rb1.below (hB.trans (h.mono hB.size))).more (hB.trans (h.mono hB.size)).size)
  clear ea1 ea2 ea3 ea4 eb1 eb2 eb3 eb4
  obtain ⟨Q2, hQ2⟩ : ∃ Q, decide (prt m 2 = prt k 2) = Q := ⟨_, rfl⟩
  obtain ⟨ea1, ea2, ea3, ea4, ra2⟩ := ra.2.2.1
  obtain ⟨eb1, eb2, eb3, eb4, rb2⟩ := rb.2.2.1
  have hc2 := fun w' (h : Below V.heap.size V w') => rdsame_anyT ag2 bg2 aX2 bX2 an2 bn2 ac2 bc2 ae2 be2 m.c.ls k.c.ls ea3 eb3 (by rw [← ea3]; exact hsm.2.2.1) (by rw [← eb3]; exact hsk.2.2.1) Q2 (by rw [← hQ2]; simp only [prt]; rw [← ea1, ← ea2, ← eb1, ← eb2]) w' ((ra2.below (hB.trans (h.mono hB.size))).more (hB.trans (h.mono hB.size)).size) ((rb2.below (hB.trans (h.mono hB.size))).more (hB.trans (h.mono hB.size)).size)
  clear ea1 ea2 ea3 ea4 eb1 eb2 eb3 eb4
  obtain ⟨Q3, hQ3⟩ : ∃ Q, decide (prt m 3 = prt k 3) = Q := ⟨_, rfl⟩
  obtain ⟨ea1, ea2, ea3, ea4, ra3⟩ := ra.2.2.2
  obtain ⟨eb1, eb2, eb3, eb4, rb3⟩ := rb.2.2.2
  have hc3 := fun w' (h : Below V.heap.size V w') => rdsame_anyT ag3 bg3 aX3 bX3 an3 bn3 ac3 bc3 ae3 be3 m.a.ls k.a.ls ea3 eb3 (by rw [← ea3]; exact hsm.2.2.2) (by rw [← eb3]; exact hsk.2.2.2) Q3 (by rw [← hQ3]; simp only [prt]; rw [← ea1, ← ea2, ← eb1, ← eb2]) w' ((ra3.below (hB.trans (h.mono hB.size))).more (hB.trans (h.mono hB.size)).size) ((rb3.below (hB.trans (h.mono hB.size))).more (hB.trans (h.mono hB.size)).size)
  clear ea1 ea2 ea3 ea4 eb1 eb2 eb3 eb4
  have hR2 : (Q0 && (Q1 && (Q2 && Q3))) = R := by rw [← hR, ← hQ0, ← hQ1, ← hQ2, ← hQ3, ← Bool.decide_and, ← Bool.decide_and, ← Bool.decide_and]; exact decide_eq_decide.2 hms.symm
  clear hR hQ0 hQ1 hQ2 hQ3 hms ra rb ra0 ra1 ra2 ra3 rb0 rb1 rb2 rb3 hsm hsk
  have hR := hR2
  clear hR2
  cases Q0 with
  | true =>
    cases Q1 with
    | true =>
      cases Q2 with
      | true =>
        cases Q3 with
        | true =>
          simp only [Bool.or_true, Bool.true_or, Bool.or_false, Bool.false_or, Bool.and_true, Bool.true_and, Bool.and_false, Bool.false_and] at hR
          subst hR
          go_enter Try.func46, Try.ntmps46
          go_wp2_with fail
          rw [← hV]
          clear hV
          refine (hc0 _ (Below.refl _ _)).mono ?_
          rintro en w1 ⟨rfl, hb1⟩
          have hB1 := hB.trans (hb1.mono hB.size)
          have kb1 := kb.below (hb1) kb.lt
          have x0_0 := kb1.cell 0
          have x0_1 := kb1.cell 1
          have x0_2 := kb1.cell 2
          have x0_3 := kb1.cell 3
          have x0_4 := kb1.cell 4
          have x0_5 := kb1.cell 5
          have x0_6 := kb1.cell 6
          have x0_7 := kb1.cell 7
          have x0_8 := kb1.cell 8
          have x0_9 := kb1.cell 9
          have x0_10 := kb1.cell 10
          have x0_11 := kb1.cell 11
          simp only [lgA, lgZ, lgS] at x0_0 x0_1 x0_2 x0_3 x0_4 x0_5 x0_6 x0_7 x0_8 x0_9 x0_10 x0_11
          have kc1 := kc.below (hb1) kc.lt
          have y0_0 := kc1.cell 0
          have y0_1 := kc1.cell 1
          have y0_2 := kc1.cell 2
          have y0_3 := kc1.cell 3
          have y0_4 := kc1.cell 4
          have y0_5 := kc1.cell 5
          have y0_6 := kc1.cell 6
          have y0_7 := kc1.cell 7
          have y0_8 := kc1.cell 8
          have y0_9 := kc1.cell 9
          have y0_10 := kc1.cell 10
          have y0_11 := kc1.cell 11
          simp only [lgA, lgZ, lgS] at y0_0 y0_1 y0_2 y0_3 y0_4 y0_5 y0_6 y0_7 y0_8 y0_9 y0_10 y0_11
          go_wp2_with fail
          refine (hc1 _ (hb1)).mono ?_
          rintro en w2 ⟨rfl, hb2⟩
          have hB2 := hB1.trans (hb2.mono hB1.size)
          have kb2 := kb.below ((hb1).trans (hb2.mono (hb1).size)) kb.lt
          have x1_0 := kb2.cell 0
          have x1_1 := kb2.cell 1
          have x1_2 := kb2.cell 2
          have x1_3 := kb2.cell 3
          have x1_4 := kb2.cell 4
          have x1_5 := kb2.cell 5
          have x1_6 := kb2.cell 6
          have x1_7 := kb2.cell 7
          have x1_8 := kb2.cell 8
          have x1_9 := kb2.cell 9
          have x1_10 := kb2.cell 10
          have x1_11 := kb2.cell 11
          simp only [lgA, lgZ, lgS] at x1_0 x1_1 x1_2 x1_3 x1_4 x1_5 x1_6 x1_7 x1_8 x1_9 x1_10 x1_11
          have kc2 := kc.below ((hb1).trans (hb2.mono (hb1).size)) kc.lt
          have y1_0 := kc2.cell 0
          have y1_1 := kc2.cell 1
          have y1_2 := kc2.cell 2
          have y1_3 := kc2.cell 3
          have y1_4 := kc2.cell 4
          have y1_5 := kc2.cell 5
          have y1_6 := kc2.cell 6
          have y1_7 := kc2.cell 7
          have y1_8 := kc2.cell 8
          have y1_9 := kc2.cell 9
          have y1_10 := kc2.cell 10
          have y1_11 := kc2.cell 11
          simp only [lgA, lgZ, lgS] at y1_0 y1_1 y1_2 y1_3 y1_4 y1_5 y1_6 y1_7 y1_8 y1_9 y1_10 y1_11
          go_wp2_with fail
          refine (hc2 _ ((hb1).trans (hb2.mono (hb1).size))).mono ?_
          rintro en w3 ⟨rfl, hb3⟩
          have hB3 := hB2.trans (hb3.mono hB2.size)
          have kb3 := kb.below (((hb1).trans (hb2.mono (hb1).size)).trans (hb3.mono ((hb1).trans (hb2.mono (hb1).size)).size)) kb.lt
          have x2_0 := kb3.cell 0
          have x2_1 := kb3.cell 1
          have x2_2 := kb3.cell 2
          have x2_3 := kb3.cell 3
          have x2_4 := kb3.cell 4
          have x2_5 := kb3.cell 5
          have x2_6 := kb3.cell 6
          have x2_7 := kb3.cell 7
          have x2_8 := kb3.cell 8
          have x2_9 := kb3.cell 9
          have x2_10 := kb3.cell 10
          have x2_11 := kb3.cell 11
          simp only [lgA, lgZ, lgS] at x2_0 x2_1 x2_2 x2_3 x2_4 x2_5 x2_6 x2_7 x2_8 x2_9 x2_10 x2_11
          have kc3 := kc.below (((hb1).trans (hb2.mono (hb1).size)).trans (hb3.mono ((hb1).trans (hb2.mono (hb1).size)).size)) kc.lt
          have y2_0 := kc3.cell 0
          have y2_1 := kc3.cell 1
          have y2_2 := kc3.cell 2
          have y2_3 := kc3.cell 3
          have y2_4 := kc3.cell 4
          have y2_5 := kc3.cell 5
          have y2_6 := kc3.cell 6
          have y2_7 := kc3.cell 7
          have y2_8 := kc3.cell 8
          have y2_9 := kc3.cell 9
          have y2_10 := kc3.cell 10
          have y2_11 := kc3.cell 11
          simp only [lgA, lgZ, lgS] at y2_0 y2_1 y2_2 y2_3 y2_4 y2_5 y2_6 y2_7 y2_8 y2_9 y2_10 y2_11
          go_wp2_with fail
          refine (hc3 _ (((hb1).trans (hb2.mono (hb1).size)).trans (hb3.mono ((hb1).trans (hb2.mono (hb1).size)).size))).mono ?_
          rintro en w4 ⟨rfl, hb4⟩
          have hB4 := hB3.trans (hb4.mono hB3.size)
          go_wp2
          go_ret
          exact ⟨rfl, hB4⟩
        | false =>
          simp only [Bool.or_true, Bool.true_or, Bool.or_false, Bool.false_or, Bool.and_true, Bool.true_and, Bool.and_false, Bool.false_and] at hR
          subst hR
          go_enter Try.func46, Try.ntmps46
          go_wp2_with fail
          rw [← hV]
          clear hV
          refine (hc0 _ (Below.refl _ _)).mono ?_
          rintro en w1 ⟨rfl, hb1⟩
          have hB1 := hB.trans (hb1.mono hB.size)
          have kb1 := kb.below (hb1) kb.lt
          have x0_0 := kb1.cell 0
          have x0_1 := kb1.cell 1
          have x0_2 := kb1.cell 2
          have x0_3 := kb1.cell 3
          have x0_4 := kb1.cell 4
          have x0_5 := kb1.cell 5
          have x0_6 := kb1.cell 6
          have x0_7 := kb1.cell 7
          have x0_8 := kb1.cell 8
          have x0_9 := kb1.cell 9
          have x0_10 := kb1.cell 10
          have x0_11 := kb1.cell 11
          simp only [lgA, lgZ, lgS] at x0_0 x0_1 x0_2 x0_3 x0_4 x0_5 x0_6 x0_7 x0_8 x0_9 x0_10 x0_11
          have kc1 := kc.below (hb1) kc.lt
          have y0_0 := kc1.cell 0
          have y0_1 := kc1.cell 1
          have y0_2 := kc1.cell 2
          have y0_3 := kc1.cell 3
          have y0_4 := kc1.cell 4
          have y0_5 := kc1.cell 5
          have y0_6 := kc1.cell 6
          have y0_7 := kc1.cell 7
          have y0_8 := kc1.cell 8
          have y0_9 := kc1.cell 9
          have y0_10 := kc1.cell 10
          have y0_11 := kc1.cell 11
          simp only [lgA, lgZ, lgS] at y0_0 y0_1 y0_2 y0_3 y0_4 y0_5 y0_6 y0_7 y0_8 y0_9 y0_10 y0_11
          go_wp2_with fail
          refine (hc1 _ (hb1)).mono ?_
          rintro en w2 ⟨rfl, hb2⟩
          have hB2 := hB1.trans (hb2.mono hB1.size)
          have kb2 := kb.below ((hb1).trans (hb2.mono (hb1).size)) kb.lt
          have x1_0 := kb2.cell 0
          have x1_1 := kb2.cell 1
          have x1_2 := kb2.cell 2
          have x1_3 := kb2.cell 3
          have x1_4 := kb2.cell 4
          have x1_5 := kb2.cell 5
          have x1_6 := kb2.cell 6
          have x1_7 := kb2.cell 7
          have x1_8 := kb2.cell 8
          have x1_9 := kb2.cell 9
          have x1_10 := kb2.cell 10
          have x1_11 := kb2.cell 11
          simp only [lgA, lgZ, lgS] at x1_0 x1_1 x1_2 x1_3 x1_4 x1_5 x1_6 x1_7 x1_8 x1_9 x1_10 x1_11
          have kc2 := kc.below ((hb1).trans (hb2.mono (hb1).size)) kc.lt
          have y1_0 := kc2.cell 0
          have y1_1 := kc2.cell 1
          have y1_2 := kc2.cell 2
          have y1_3 := kc2.cell 3
          have y1_4 := kc2.cell 4
          have y1_5 := kc2.cell 5
          have y1_6 := kc2.cell 6
          have y1_7 := kc2.cell 7
          have y1_8 := kc2.cell 8
          have y1_9 := kc2.cell 9
          have y1_10 := kc2.cell 10
          have y1_11 := kc2.cell 11
          simp only [lgA, lgZ, lgS] at y1_0 y1_1 y1_2 y1_3 y1_4 y1_5 y1_6 y1_7 y1_8 y1_9 y1_10 y1_11
          go_wp2_with fail
          refine (hc2 _ ((hb1).trans (hb2.mono (hb1).size))).mono ?_
          rintro en w3 ⟨rfl, hb3⟩
          have hB3 := hB2.trans (hb3.mono hB2.size)
          have kb3 := kb.below (((hb1).trans (hb2.mono (hb1).size)).trans (hb3.mono ((hb1).trans (hb2.mono (hb1).size)).size)) kb.lt
          have x2_0 := kb3.cell 0
          have x2_1 := kb3.cell 1
          have x2_2 := kb3.cell 2
          have x2_3 := kb3.cell 3
          have x2_4 := kb3.cell 4
          have x2_5 := kb3.cell 5
          have x2_6 := kb3.cell 6
          have x2_7 := kb3.cell 7
          have x2_8 := kb3.cell 8
          have x2_9 := kb3.cell 9
          have x2_10 := kb3.cell 10
          have x2_11 := kb3.cell 11
          simp only [lgA, lgZ, lgS] at x2_0 x2_1 x2_2 x2_3 x2_4 x2_5 x2_6 x2_7 x2_8 x2_9 x2_10 x2_11
          have kc3 := kc.below (((hb1).trans (hb2.mono (hb1).size)).trans (hb3.mono ((hb1).trans (hb2.mono (hb1).size)).size)) kc.lt
          have y2_0 := kc3.cell 0
          have y2_1 := kc3.cell 1
          have y2_2 := kc3.cell 2
          have y2_3 := kc3.cell 3
          have y2_4 := kc3.cell 4
          have y2_5 := kc3.cell 5
          have y2_6 := kc3.cell 6
          have y2_7 := kc3.cell 7
          have y2_8 := kc3.cell 8
          have y2_9 := kc3.cell 9
          have y2_10 := kc3.cell 10
          have y2_11 := kc3.cell 11
          simp only [lgA, lgZ, lgS] at y2_0 y2_1 y2_2 y2_3 y2_4 y2_5 y2_6 y2_7 y2_8 y2_9 y2_10 y2_11
          go_wp2_with fail
          refine (hc3 _ (((hb1).trans (hb2.mono (hb1).size)).trans (hb3.mono ((hb1).trans (hb2.mono (hb1).size)).size))).mono ?_
          rintro en w4 ⟨rfl, hb4⟩
          have hB4 := hB3.trans (hb4.mono hB3.size)
          go_wp2
          go_ret
          exact ⟨rfl, hB4⟩
      | false =>
        simp only [Bool.or_true, Bool.true_or, Bool.or_false, Bool.false_or, Bool.and_true, Bool.true_and, Bool.and_false, Bool.false_and] at hR
        subst hR
        go_enter Try.func46, Try.ntmps46
        go_wp2_with fail
        rw [← hV]
        clear hV
        refine (hc0 _ (Below.refl _ _)).mono ?_
        rintro en w1 ⟨rfl, hb1⟩
        have hB1 := hB.trans (hb1.mono hB.size)
        have kb1 := kb.below (hb1) kb.lt
        have x0_0 := kb1.cell 0
        have x0_1 := kb1.cell 1
        have x0_2 := kb1.cell 2
        have x0_3 := kb1.cell 3
        have x0_4 := kb1.cell 4
        have x0_5 := kb1.cell 5
        have x0_6 := kb1.cell 6
        have x0_7 := kb1.cell 7
        have x0_8 := kb1.cell 8
        have x0_9 := kb1.cell 9
        have x0_10 := kb1.cell 10
        have x0_11 := kb1.cell 11
        simp only [lgA, lgZ, lgS] at x0_0 x0_1 x0_2 x0_3 x0_4 x0_5 x0_6 x0_7 x0_8 x0_9 x0_10 x0_11
        have kc1 := kc.below (hb1) kc.lt
        have y0_0 := kc1.cell 0
        have y0_1 := kc1.cell 1
        have y0_2 := kc1.cell 2
        have y0_3 := kc1.cell 3
        have y0_4 := kc1.cell 4
        have y0_5 := kc1.cell 5
        have y0_6 := kc1.cell 6
        have y0_7 := kc1.cell 7
        have y0_8 := kc1.cell 8
        have y0_9 := kc1.cell 9
        have y0_10 := kc1.cell 10
        have y0_11 := kc1.cell 11
        simp only [lgA, lgZ, lgS] at y0_0 y0_1 y0_2 y0_3 y0_4 y0_5 y0_6 y0_7 y0_8 y0_9 y0_10 y0_11
        go_wp2_with fail
        refine (hc1 _ (hb1)).mono ?_
        rintro en w2 ⟨rfl, hb2⟩
        have hB2 := hB1.trans (hb2.mono hB1.size)
        have kb2 := kb.below ((hb1).trans (hb2.mono (hb1).size)) kb.lt
        have x1_0 := kb2.cell 0
        have x1_1 := kb2.cell 1
        have x1_2 := kb2.cell 2
        have x1_3 := kb2.cell 3
        have x1_4 := kb2.cell 4
        have x1_5 := kb2.cell 5
        have x1_6 := kb2.cell 6
        have x1_7 := kb2.cell 7
        have x1_8 := kb2.cell 8
        have x1_9 := kb2.cell 9
        have x1_10 := kb2.cell 10
        have x1_11 := kb2.cell 11
        simp only [lgA, lgZ, lgS] at x1_0 x1_1 x1_2 x1_3 x1_4 x1_5 x1_6 x1_7 x1_8 x1_9 x1_10 x1_11
        have kc2 := kc.below ((hb1).trans (hb2.mono (hb1).size)) kc.lt
        have y1_0 := kc2.cell 0
        have y1_1 := kc2.cell 1
        have y1_2 := kc2.cell 2
        have y1_3 := kc2.cell 3
        have y1_4 := kc2.cell 4
        have y1_5 := kc2.cell 5
        have y1_6 := kc2.cell 6
        have y1_7 := kc2.cell 7
        have y1_8 := kc2.cell 8
        have y1_9 := kc2.cell 9
        have y1_10 := kc2.cell 10
        have y1_11 := kc2.cell 11
        simp only [lgA, lgZ, lgS] at y1_0 y1_1 y1_2 y1_3 y1_4 y1_5 y1_6 y1_7 y1_8 y1_9 y1_10 y1_11
        go_wp2_with fail
        refine (hc2 _ ((hb1).trans (hb2.mono (hb1).size))).mono ?_
        rintro en w3 ⟨rfl, hb3⟩
        have hB3 := hB2.trans (hb3.mono hB2.size)
        go_wp2
        go_ret
        exact ⟨rfl, hB3⟩
    | false =>
      simp only [Bool.or_true, Bool.true_or, Bool.or_false, Bool.false_or, Bool.and_true, Bool.true_and, Bool.and_false, Bool.false_and] at hR
      subst hR
      go_enter Try.func46, Try.ntmps46
      go_wp2_with fail
      rw [← hV]
      clear hV
      refine (hc0 _ (Below.refl _ _)).mono ?_
      rintro en w1 ⟨rfl, hb1⟩
      have hB1 := hB.trans (hb1.mono hB.size)
      have kb1 := kb.below (hb1) kb.lt
      have x0_0 := kb1.cell 0
      have x0_1 := kb1.cell 1
      have x0_2 := kb1.cell 2
      have x0_3 := kb1.cell 3
      have x0_4 := kb1.cell 4
      have x0_5 := kb1.cell 5
      have x0_6 := kb1.cell 6
      have x0_7 := kb1.cell 7
      have x0_8 := kb1.cell 8
      have x0_9 := kb1.cell 9
      have x0_10 := kb1.cell 10
      have x0_11 := kb1.cell 11
      simp only [lgA, lgZ, lgS] at x0_0 x0_1 x0_2 x0_3 x0_4 x0_5 x0_6 x0_7 x0_8 x0_9 x0_10 x0_11
      have kc1 := kc.below (hb1) kc.lt
      have y0_0 := kc1.cell 0
      have y0_1 := kc1.cell 1
      have y0_2 := kc1.cell 2
      have y0_3 := kc1.cell 3
      have y0_4 := kc1.cell 4
      have y0_5 := kc1.cell 5
      have y0_6 := kc1.cell 6
      have y0_7 := kc1.cell 7
      have y0_8 := kc1.cell 8
      have y0_9 := kc1.cell 9
      have y0_10 := kc1.cell 10
      have y0_11 := kc1.cell 11
      simp only [lgA, lgZ, lgS] at y0_0 y0_1 y0_2 y0_3 y0_4 y0_5 y0_6 y0_7 y0_8 y0_9 y0_10 y0_11
      go_wp2_with fail
      refine (hc1 _ (hb1)).mono ?_
      rintro en w2 ⟨rfl, hb2⟩
      have hB2 := hB1.trans (hb2.mono hB1.size)
      go_wp2
      go_ret
      exact ⟨rfl, hB2⟩
  | false =>
    simp only [Bool.or_true, Bool.true_or, Bool.or_false, Bool.false_or, Bool.and_true, Bool.true_and, Bool.and_false, Bool.false_and] at hR
    subst hR
    go_enter Try.func46, Try.ntmps46
    go_wp2_with fail
    rw [← hV]
    clear hV
    refine (hc0 _ (Below.refl _ _)).mono ?_
    rintro en w1 ⟨rfl, hb1⟩
    have hB1 := hB.trans (hb1.mono hB.size)
    go_wp2
    go_ret
    exact ⟨rfl, hB1⟩
section
attribute [local go_sem] Oper.semAt_some
set_option maxRecDepth 100000 in
set_option maxHeartbeats 8000000 in
theorem mtwin_anyT (ag0 : Bool) (aX0 : Option Addr) (an0 ac0 : Nat) (ae0 : Int) (ag1 : Bool) (aX1 : Option Addr) (an1 ac1 : Nat) (ae1 : Int) (ag2 : Bool) (aX2 : Option Addr) (an2 ac2 : Nat) (ae2 : Int) (ag3 : Bool) (aX3 : Option Addr) (an3 ac3 : Nat) (ae3 : Int) (m : Ms) (hsm : smM m) (w : World) (ra : RdM w w.heap.size ag0 aX0 an0 ac0 ae0 ag1 aX1 an1 ac1 ae1 ag2 aX2 an2 ac2 ae2 ag3 aX3 an3 ac3 ae3 m) :
    Calls Try.prog 37 #[.agg #[.bool ag0, .slice aX0 an0 ac0, .int .i64 ae0, .bool ag1, .slice aX1 an1 ac1, .int .i64 ae1, .bool ag2, .slice aX2 an2 ac2, .int .i64 ae2, .bool ag3, .slice aX3 an3 ac3, .int .i64 ae3]] w (TwMT w ag0 aX0 an0 ac0 ae0 ag1 aX1 an1 ac1 ae1 ag2 aX2 an2 ac2 ae2 ag3 aX3 an3 ac3 ae3 m) := by
  refine (callsIn_wide (n := 6)).1 ?_
  refine callsIn_of_wp_marks Try.func37 rfl trivial ?_ rfl
  simp only [Try.ntmps37, List.size_toArray, List.length_cons, List.length_nil, Nat.reduceAdd, Nat.reduceSub, Array.replicate_succ, Array.replicate_zero, List.push_toArray, List.append_toArray, List.nil_append, List.cons_append]
  have gra := Lib.hid ra
  have gsm := Lib.hid hsm
  have gc : an0 ≤ ac0 ∧ an1 ≤ ac1 ∧ an2 ≤ ac2 ∧ an3 ≤ ac3 := ⟨ra.1.2.2.2.1, ra.2.1.2.2.2.1, ra.2.2.1.2.2.2.1, ra.2.2.2.2.2.2.1⟩
  clear ra hsm
  have hpt := parts_any ⟨w.heap.size, 0, none⟩ ⟨w.heap.size, 0, none⟩ ((w.alloc (.cells #[.bool ag0, .slice aX0 an0 ac0, .int .i64 ae0, .bool ag1, .slice aX1 an1 ac1, .int .i64 ae1, .bool ag2, .slice aX2 an2 ac2, .int .i64 ae2, .bool ag3, .slice aX3 an3 ac3, .int .i64 ae3] 26)).alloc (.cells #[.bool false, .slice none 0 0, .int .i64 0, .bool false, .slice none 0 0, .int .i64 0, .bool false, .slice none 0 0, .int .i64 0, .bool false, .slice none 0 0, .int .i64 0] 26))
  simp only [World.size_alloc] at hpt
  obtain ⟨W5, hW5⟩ : ∃ W5, W5 = ((((w.alloc (.cells #[.bool ag0, .slice aX0 an0 ac0, .int .i64 ae0, .bool ag1, .slice aX1 an1 ac1, .int .i64 ae1, .bool ag2, .slice aX2 an2 ac2, .int .i64 ae2, .bool ag3, .slice aX3 an3 ac3, .int .i64 ae3] 26)).alloc (.cells #[.bool false, .slice none 0 0, .int .i64 0, .bool false, .slice none 0 0, .int .i64 0, .bool false, .slice none 0 0, .int .i64 0, .bool false, .slice none 0 0, .int .i64 0] 26)).alloc (.cells #[.pointer (some ⟨w.heap.size, 0, none⟩)] 99)).alloc (.cells #[.pointer (some ⟨w.heap.size, 0, none⟩)] 99)) := ⟨_, rfl⟩
  have B0 : Blk W5 w.heap.size 26 #[.bool ag0, .slice aX0 an0 ac0, .int .i64 ae0, .bool ag1, .slice aX1 an1 ac1, .int .i64 ae1, .bool ag2, .slice aX2 an2 ac2, .int .i64 ae2, .bool ag3, .slice aX3 an3 ac3, .int .i64 ae3] := by rw [hW5]; exact (((Blk.new w _ _).alloc _).alloc _).alloc _
  have B1 : Blk W5 (w.heap.size + 1) 26 #[.bool false, .slice none 0 0, .int .i64 0, .bool false, .slice none 0 0, .int .i64 0, .bool false, .slice none 0 0, .int .i64 0, .bool false, .slice none 0 0, .int .i64 0] := by
    have := ((Blk.new (w.alloc (.cells #[.bool ag0, .slice aX0 an0 ac0, .int .i64 ae0, .bool ag1, .slice aX1 an1 ac1, .int .i64 ae1, .bool ag2, .slice aX2 an2 ac2, .int .i64 ae2, .bool ag3, .slice aX3 an3 ac3, .int .i64 ae3] 26)) 26 #[.bool false, .slice none 0 0, .int .i64 0, .bool false, .slice none 0 0, .int .i64 0, .bool false, .slice none 0 0, .int .i64 0, .bool false, .slice none 0 0, .int .i64 0]).alloc (.cells #[.pointer (some ⟨w.heap.size, 0, none⟩)] 99)).alloc (.cells #[.pointer (some ⟨w.heap.size, 0, none⟩)] 99)
    rw [World.size_alloc] at this
    rw [hW5]; exact this
  have B3 : Blk W5 (w.heap.size + 2) 99 #[.pointer (some ⟨w.heap.size, 0, none⟩)] := by
    have := (Blk.new ((w.alloc (.cells #[.bool ag0, .slice aX0 an0 ac0, .int .i64 ae0, .bool ag1, .slice aX1 an1 ac1, .int .i64 ae1, .bool ag2, .slice aX2 an2 ac2, .int .i64 ae2, .bool ag3, .slice aX3 an3 ac3, .int .i64 ae3] 26)).alloc (.cells #[.bool false, .slice none 0 0, .int .i64 0, .bool false, .slice none 0 0, .int .i64 0, .bool false, .slice none 0 0, .int .i64 0, .bool false, .slice none 0 0, .int .i64 0] 26)) 99 #[.pointer (some ⟨w.heap.size, 0, none⟩)]).alloc (.cells #[.pointer (some ⟨w.heap.size, 0, none⟩)] 99)
    simp only [World.size_alloc] at this
    rw [hW5]; exact this
  have B4 : Blk W5 (w.heap.size + 3) 99 #[.pointer (some ⟨w.heap.size, 0, none⟩)] := by
    have := Blk.new (((w.alloc (.cells #[.bool ag0, .slice aX0 an0 ac0, .int .i64 ae0, .bool ag1, .slice aX1 an1 ac1, .int .i64 ae1, .bool ag2, .slice aX2 an2 ac2, .int .i64 ae2, .bool ag3, .slice aX3 an3 ac3, .int .i64 ae3] 26)).alloc (.cells #[.bool false, .slice none 0 0, .int .i64 0, .bool false, .slice none 0 0, .int .i64 0, .bool false, .slice none 0 0, .int .i64 0, .bool false, .slice none 0 0, .int .i64 0] 26)).alloc (.cells #[.pointer (some ⟨w.heap.size, 0, none⟩)] 99)) 99 #[.pointer (some ⟨w.heap.size, 0, none⟩)]
    simp only [World.size_alloc] at this
    rw [hW5]; exact this
  have hB : Below w.heap.size w W5 := by rw [hW5]; exact ((((Below.refl _ w).alloc (Nat.le_refl _) _).alloc (by simp) _).alloc (by simp; omega) _).alloc (by simp; omega) _
  have sz : W5.heap.size = w.heap.size + 4 := by rw [hW5]; simp
  have gsz := Lib.hid sz
  gi_wp2_with (refine ⟨trivial, ?_⟩; gi_at_call 56; refine (callsIn_wide.2 hpt).mono ?_; rintro e W' ⟨rfl, rfl⟩)
  rw [← hW5]
  clear hW5 hpt sz
  have q3 := B3.cell 0
  have q4 := B4.cell 0
  simp only [List.getElem?_toArray, List.getElem?_cons_zero] at q3 q4
  refine wpIn_rangeFunc_ownF rfl (by omega) (gf := 84) (lb := #[.pointer (some ⟨w.heap.size + 2, 0, none⟩), .pointer (some ⟨w.heap.size + 3, 0, none⟩)]) rfl trivial (enters_of Try.func84 (by kernel_rfl) rfl)
    (parts_seq _ _ _ _ _ (by omega) W5 q3 q4) kpM_t (kpM_b (by rw [gsz.out]; omega) (by rw [gsz.out]; omega)) (Below.refl _ _) (fun _ => rfl)
    (fun pre W => ((∃ (X0 : Option Addr) (c0 : Nat) (X1 : Option Addr) (c1 : Nat) (X2 : Option Addr) (c2 : Nat) (X3 : Option Addr) (c3 : Nat), Blk W w.heap.size 26 #[.bool ag0, .slice X0 an0 c0, .int .i64 ae0, .bool ag1, .slice X1 an1 c1, .int .i64 ae1, .bool ag2, .slice X2 an2 c2, .int .i64 ae2, .bool ag3, .slice X3 an3 c3, .int .i64 ae3] ∧ StT W (w.heap.size + 4) an0 m.s.ls aX0 ac0 (p0 ∉ pre) X0 c0 ∧ StT W (w.heap.size + 4) an1 m.w.ls aX1 ac1 (p1 ∉ pre) X1 c1 ∧ StT W (w.heap.size + 4) an2 m.c.ls aX2 ac2 (p2 ∉ pre) X2 c2 ∧ StT W (w.heap.size + 4) an3 m.a.ls aX3 ac3 (p3 ∉ pre) X3 c3) ∧ Blk W (w.heap.size + 1) 26 #[.bool false, .slice none 0 0, .int .i64 0, .bool false, .slice none 0 0, .int .i64 0, .bool false, .slice none 0 0, .int .i64 0, .bool false, .slice none 0 0, .int .i64 0] ∧ Blk W (w.heap.size + 2) 99 #[.pointer (some ⟨w.heap.size, 0, none⟩)] ∧ Blk W (w.heap.size + 3) 99 #[.pointer (some ⟨w.heap.size, 0, none⟩)]) ∧ Below w.heap.size w W)
    (fun _ _ _ => False)
    (OwnFrom.and (Own.from (fun s A B row hs hg hr => by
      obtain ⟨⟨X0, c0, X1, c1, X2, c2, X3, c3, hv, s0, s1, s2, s3⟩, h1, h2, h3⟩ := hs
      exact ⟨⟨X0, c0, X1, c1, X2, c2, X3, c3, blk_own (β := Nat) _ _ (fun _ => _) 0 A B row hv hg hr, s0.own hg hr, s1.own hg hr, s2.own hg hr, s3.own hg hr⟩, blk_own (β := Nat) _ _ (fun _ => _) 0 A B row h1 hg hr, blk_own (β := Nat) _ _ (fun _ => _) 0 A B row h2 hg hr, blk_own (β := Nat) _ _ (fun _ => _) 0 A B row h3 hg hr⟩) _) (ownFrom_below (Nat.le_refl _) (by rw [gsz.out]; omega)))
    (fun _ _ _ _ _ hs _ _ => hs)
    ⟨⟨⟨aX0, ac0, aX1, ac1, aX2, ac2, aX3, ac3, B0, ⟨gc.1, .inr ⟨by simp, rfl, rfl⟩⟩, ⟨gc.2.1, .inr ⟨by simp, rfl, rfl⟩⟩, ⟨gc.2.2.1, .inr ⟨by simp, rfl, rfl⟩⟩, ⟨gc.2.2.2, .inr ⟨by simp, rfl, rfl⟩⟩⟩, B1, B3, B4⟩, hB⟩
    (fun x => { tmps := #[.agg #[.bool ag0, .slice aX0 an0 ac0, .int .i64 ae0, .bool ag1, .slice aX1 an1 ac1, .int .i64 ae1, .bool ag2, .slice aX2 an2 ac2, .int .i64 ae2, .bool ag3, .slice aX3 an3 ac3, .int .i64 ae3], .pointer (some ⟨w.heap.size, 0, none⟩), .pointer (some ⟨w.heap.size + 1, 0, none⟩), .pointer (some ⟨w.heap.size, 3 * x.1, none⟩), .func (.func 84) #[] #[.pointer (some ⟨w.heap.size + 2, 0, none⟩), .pointer (some ⟨w.heap.size + 3, 0, none⟩)], .pointer (some ⟨w.heap.size, 3 * x.1, none⟩), .pointer (some ⟨w.heap.size, 3 * x.1, none⟩), undef, undef, undef, undef, undef, undef, undef], defers := [] }) ?assign ?body ?done ?stop
  case assign =>
    intro l x W K hK
    gi_wp2
    exact hK
  case body =>
    rintro l pre ⟨i, hi⟩ W ⟨⟨⟨X0, c0, X1, c1, X2, c2, X3, c3, hv, s0, s1, s2, s3⟩, h1, h5, h6⟩, hW⟩ _
    have hi4 : i = 0 ∨ i = 1 ∨ i = 2 ∨ i = 3 := by omega
    rcases hi4 with rfl | rfl | rfl | rfl
    · have x0 := hv.cell 0
      have x1 := hv.cell 1
      have x2 := hv.cell 2
      simp only [lgA, lgZ, lgS] at x0 x1 x2
      obtain ⟨ea1, ea2, ea3, ea4, ra⟩ := gra.out.1
      have hr := s0.reads (c0' := 0) ra hW
      have hd := dtwin_any ag0 X0 an0 c0 ae0 m.s.ls ea3 (by rw [← ea3]; exact gsm.out.1) W hr
      clear ea1 ea2 ea3 ea4 ra hr
      have hv' := fun w' (h : Below W.heap.size W w') => hv.below h hv.lt
      gi_wp2_with (refine ⟨trivial, ?_⟩; gi_at_call 69; refine (CallsIn.inRound l (callsIn_wide.2 hd)).mono ?_; rintro e w2 ⟨Xo, co, rfl, hco, ho, hb⟩; have hv2 := hv' w2 hb; have y0 := hv2.cell 0; have y1 := hv2.cell 1; have y2 := hv2.cell 2; have f0 := hv2.frozen 0; have f1 := hv2.frozen 1; have f2 := hv2.frozen 2; simp only [lgA, lgZ, lgS] at y0 y1 y2; clear hd hv' x0 x1 x2)
      have hl := hv.lt
      have hg : W.grownBy w2 none := ⟨hb.os, hb.tape, hb.output, hb.size, fun k hk _ => hb.block k hk⟩
      have hv3 := blk3 (i := 0) (ds := #[.bool ag0, .slice Xo an0 co, .int .i64 ae0, .bool ag1, .slice X1 an1 c1, .int .i64 ae1, .bool ag2, .slice X2 an2 c2, .int .i64 ae2, .bool ag3, .slice X3 an3 c3, .int .i64 ae3]) hv2 (.bool ag0) (.slice Xo an0 co) (.int .i64 ae0) (by simp)
      have hsW : w.heap.size + 4 ≤ W.heap.size := h6.lt
      have ho2 := OwnR.far (OwnR.far (OwnR.far (ho.base_le hsW) (p := ⟨w.heap.size, 0, none⟩) (by simp) (.bool ag0)) (p := ⟨w.heap.size, 0 + 1, none⟩) (by simp) (.slice Xo an0 co)) (p := ⟨w.heap.size, 0 + 2, none⟩) (by simp) (.int .i64 ae0)
      have hmv : ∀ {n c c0 : Nat} {l : List Nat} {X0 X : Option Addr} {out out' : Prop}, StT W (w.heap.size + 4) n l X0 c0 out X c → (out → out') → StT (((w2.setCell ⟨w.heap.size, 0, none⟩ (.bool ag0)).setCell ⟨w.heap.size, 0 + 1, none⟩ (.slice Xo an0 co)).setCell ⟨w.heap.size, 0 + 2, none⟩ (.int .i64 ae0)) (w.heap.size + 4) n l X0 c0 out' X c := fun h hh => h.map (fun h => OwnR.far (OwnR.far (OwnR.far (h.below hb) (p := ⟨w.heap.size, 0, none⟩) (by simp) _) (p := ⟨w.heap.size, 0 + 1, none⟩) (by simp) _) (p := ⟨w.heap.size, 0 + 2, none⟩) (by simp) _) hh
      have hfar : ∀ {g : Nat} {t : TypeId} {cs : Array Value}, w.heap.size < g → Blk W g t cs → Blk (((w2.setCell ⟨w.heap.size, 0, none⟩ (.bool ag0)).setCell ⟨w.heap.size, 0 + 1, none⟩ (.slice Xo an0 co)).setCell ⟨w.heap.size, 0 + 2, none⟩ (.int .i64 ae0)) g t cs := fun hg h => (((h.below hb h.lt).far (p := ⟨w.heap.size, 0, none⟩) (by simp; omega) _).far (p := ⟨w.heap.size, 0 + 1, none⟩) (by simp; omega) _).far (p := ⟨w.heap.size, 0 + 2, none⟩) (by simp; omega) _
      have k5 := hfar (by omega) h5
      have k6 := hfar (by omega) h6
      refine ⟨((KeepsOthers.of_grownBy hg (fun j o e ho => by cases e)).trans (KeepsOthers.setCell _ _ _)).trans ((KeepsOthers.setCell _ _ _).trans (KeepsOthers.setCell _ _ _)), ⟨(k5.cell 0).trans (h5.cell 0).symm, (k6.cell 0).trans (h6.cell 0).symm⟩, ⟨⟨Xo, co, X1, c1, X2, c2, X3, c3, hv3, ⟨hco, .inl ho2⟩, hmv s1 (fun h e => h ((List.mem_append.1 e).elim id (fun h => by simp at h))), hmv s2 (fun h e => h ((List.mem_append.1 e).elim id (fun h => by simp at h))), hmv s3 (fun h e => h ((List.mem_append.1 e).elim id (fun h => by simp at h)))⟩, hfar (by omega) h1, k5, k6⟩, ?_⟩
      exact (((hW.trans (hb.mono hW.size)).setCell (p := ⟨w.heap.size, 0, none⟩) (Nat.le_refl _) _).setCell (p := ⟨w.heap.size, 0 + 1, none⟩) (Nat.le_refl _) _).setCell (p := ⟨w.heap.size, 0 + 2, none⟩) (Nat.le_refl _) _
    · have x0 := hv.cell 3
      have x1 := hv.cell 4
      have x2 := hv.cell 5
      simp only [lgA, lgZ, lgS] at x0 x1 x2
      obtain ⟨ea1, ea2, ea3, ea4, ra⟩ := gra.out.2.1
      have hr := s1.reads (c0' := 0) ra hW
      have hd := dtwin_any ag1 X1 an1 c1 ae1 m.w.ls ea3 (by rw [← ea3]; exact gsm.out.2.1) W hr
      clear ea1 ea2 ea3 ea4 ra hr
      have hv' := fun w' (h : Below W.heap.size W w') => hv.below h hv.lt
      gi_wp2_with (refine ⟨trivial, ?_⟩; gi_at_call 69; refine (CallsIn.inRound l (callsIn_wide.2 hd)).mono ?_; rintro e w2 ⟨Xo, co, rfl, hco, ho, hb⟩; have hv2 := hv' w2 hb; have y0 := hv2.cell 3; have y1 := hv2.cell 4; have y2 := hv2.cell 5; have f0 := hv2.frozen 3; have f1 := hv2.frozen 4; have f2 := hv2.frozen 5; simp only [lgA, lgZ, lgS] at y0 y1 y2; clear hd hv' x0 x1 x2)
      have hl := hv.lt
      have hg : W.grownBy w2 none := ⟨hb.os, hb.tape, hb.output, hb.size, fun k hk _ => hb.block k hk⟩
      have hv3 := blk3 (i := 3) (ds := #[.bool ag0, .slice X0 an0 c0, .int .i64 ae0, .bool ag1, .slice Xo an1 co, .int .i64 ae1, .bool ag2, .slice X2 an2 c2, .int .i64 ae2, .bool ag3, .slice X3 an3 c3, .int .i64 ae3]) hv2 (.bool ag1) (.slice Xo an1 co) (.int .i64 ae1) (by simp)
      have hsW : w.heap.size + 4 ≤ W.heap.size := h6.lt
      have ho2 := OwnR.far (OwnR.far (OwnR.far (ho.base_le hsW) (p := ⟨w.heap.size, 3, none⟩) (by simp) (.bool ag1)) (p := ⟨w.heap.size, 3 + 1, none⟩) (by simp) (.slice Xo an1 co)) (p := ⟨w.heap.size, 3 + 2, none⟩) (by simp) (.int .i64 ae1)
      have hmv : ∀ {n c c0 : Nat} {l : List Nat} {X0 X : Option Addr} {out out' : Prop}, StT W (w.heap.size + 4) n l X0 c0 out X c → (out → out') → StT (((w2.setCell ⟨w.heap.size, 3, none⟩ (.bool ag1)).setCell ⟨w.heap.size, 3 + 1, none⟩ (.slice Xo an1 co)).setCell ⟨w.heap.size, 3 + 2, none⟩ (.int .i64 ae1)) (w.heap.size + 4) n l X0 c0 out' X c := fun h hh => h.map (fun h => OwnR.far (OwnR.far (OwnR.far (h.below hb) (p := ⟨w.heap.size, 3, none⟩) (by simp) _) (p := ⟨w.heap.size, 3 + 1, none⟩) (by simp) _) (p := ⟨w.heap.size, 3 + 2, none⟩) (by simp) _) hh
      have hfar : ∀ {g : Nat} {t : TypeId} {cs : Array Value}, w.heap.size < g → Blk W g t cs → Blk (((w2.setCell ⟨w.heap.size, 3, none⟩ (.bool ag1)).setCell ⟨w.heap.size, 3 + 1, none⟩ (.slice Xo an1 co)).setCell ⟨w.heap.size, 3 + 2, none⟩ (.int .i64 ae1)) g t cs := fun hg h => (((h.below hb h.lt).far (p := ⟨w.heap.size, 3, none⟩) (by simp; omega) _).far (p := ⟨w.heap.size, 3 + 1, none⟩) (by simp; omega) _).far (p := ⟨w.heap.size, 3 + 2, none⟩) (by simp; omega) _
      have k5 := hfar (by omega) h5
      have k6 := hfar (by omega) h6
      refine ⟨((KeepsOthers.of_grownBy hg (fun j o e ho => by cases e)).trans (KeepsOthers.setCell _ _ _)).trans ((KeepsOthers.setCell _ _ _).trans (KeepsOthers.setCell _ _ _)), ⟨(k5.cell 0).trans (h5.cell 0).symm, (k6.cell 0).trans (h6.cell 0).symm⟩, ⟨⟨X0, c0, Xo, co, X2, c2, X3, c3, hv3, hmv s0 (fun h e => h ((List.mem_append.1 e).elim id (fun h => by simp at h))), ⟨hco, .inl ho2⟩, hmv s2 (fun h e => h ((List.mem_append.1 e).elim id (fun h => by simp at h))), hmv s3 (fun h e => h ((List.mem_append.1 e).elim id (fun h => by simp at h)))⟩, hfar (by omega) h1, k5, k6⟩, ?_⟩
      exact (((hW.trans (hb.mono hW.size)).setCell (p := ⟨w.heap.size, 3, none⟩) (Nat.le_refl _) _).setCell (p := ⟨w.heap.size, 3 + 1, none⟩) (Nat.le_refl _) _).setCell (p := ⟨w.heap.size, 3 + 2, none⟩) (Nat.le_refl _) _
    · have x0 := hv.cell 6
      have x1 := hv.cell 7
      have x2 := hv.cell 8
      simp only [lgA, lgZ, lgS] at x0 x1 x2
      obtain ⟨ea1, ea2, ea3, ea4, ra⟩ := gra.out.2.2.1
      have hr := s2.reads (c0' := 0) ra hW
      have hd := dtwin_any ag2 X2 an2 c2 ae2 m.c.ls ea3 (by rw [← ea3]; exact gsm.out.2.2.1) W hr
      clear ea1 ea2 ea3 ea4 ra hr
      have hv' := fun w' (h : Below W.heap.size W w') => hv.below h hv.lt
      gi_wp2_with (refine ⟨trivial, ?_⟩; gi_at_call 69; refine (CallsIn.inRound l (callsIn_wide.2 hd)).mono ?_; rintro e w2 ⟨Xo, co, rfl, hco, ho, hb⟩; have hv2 := hv' w2 hb; have y0 := hv2.cell 6; have y1 := hv2.cell 7; have y2 := hv2.cell 8; have f0 := hv2.frozen 6; have f1 := hv2.frozen 7; have f2 := hv2.frozen 8; simp only [lgA, lgZ, lgS] at y0 y1 y2; clear hd hv' x0 x1 x2)
      have hl := hv.lt
      have hg : W.grownBy w2 none := ⟨hb.os, hb.tape, hb.output, hb.size, fun k hk _ => hb.block k hk⟩
      have hv3 := blk3 (i := 6) (ds := #[.bool ag0, .slice X0 an0 c0, .int .i64 ae0, .bool ag1, .slice X1 an1 c1, .int .i64 ae1, .bool ag2, .slice Xo an2 co, .int .i64 ae2, .bool ag3, .slice X3 an3 c3, .int .i64 ae3]) hv2 (.bool ag2) (.slice Xo an2 co) (.int .i64 ae2) (by simp)
      have hsW : w.heap.size + 4 ≤ W.heap.size := h6.lt
      have ho2 := OwnR.far (OwnR.far (OwnR.far (ho.base_le hsW) (p := ⟨w.heap.size, 6, none⟩) (by simp) (.bool ag2)) (p := ⟨w.heap.size, 6 + 1, none⟩) (by simp) (.slice Xo an2 co)) (p := ⟨w.heap.size, 6 + 2, none⟩) (by simp) (.int .i64 ae2)
      have hmv : ∀ {n c c0 : Nat} {l : List Nat} {X0 X : Option Addr} {out out' : Prop}, StT W (w.heap.size + 4) n l X0 c0 out X c → (out → out') → StT (((w2.setCell ⟨w.heap.size, 6, none⟩ (.bool ag2)).setCell ⟨w.heap.size, 6 + 1, none⟩ (.slice Xo an2 co)).setCell ⟨w.heap.size, 6 + 2, none⟩ (.int .i64 ae2)) (w.heap.size + 4) n l X0 c0 out' X c := fun h hh => h.map (fun h => OwnR.far (OwnR.far (OwnR.far (h.below hb) (p := ⟨w.heap.size, 6, none⟩) (by simp) _) (p := ⟨w.heap.size, 6 + 1, none⟩) (by simp) _) (p := ⟨w.heap.size, 6 + 2, none⟩) (by simp) _) hh
      have hfar : ∀ {g : Nat} {t : TypeId} {cs : Array Value}, w.heap.size < g → Blk W g t cs → Blk (((w2.setCell ⟨w.heap.size, 6, none⟩ (.bool ag2)).setCell ⟨w.heap.size, 6 + 1, none⟩ (.slice Xo an2 co)).setCell ⟨w.heap.size, 6 + 2, none⟩ (.int .i64 ae2)) g t cs := fun hg h => (((h.below hb h.lt).far (p := ⟨w.heap.size, 6, none⟩) (by simp; omega) _).far (p := ⟨w.heap.size, 6 + 1, none⟩) (by simp; omega) _).far (p := ⟨w.heap.size, 6 + 2, none⟩) (by simp; omega) _
      have k5 := hfar (by omega) h5
      have k6 := hfar (by omega) h6
      refine ⟨((KeepsOthers.of_grownBy hg (fun j o e ho => by cases e)).trans (KeepsOthers.setCell _ _ _)).trans ((KeepsOthers.setCell _ _ _).trans (KeepsOthers.setCell _ _ _)), ⟨(k5.cell 0).trans (h5.cell 0).symm, (k6.cell 0).trans (h6.cell 0).symm⟩, ⟨⟨X0, c0, X1, c1, Xo, co, X3, c3, hv3, hmv s0 (fun h e => h ((List.mem_append.1 e).elim id (fun h => by simp at h))), hmv s1 (fun h e => h ((List.mem_append.1 e).elim id (fun h => by simp at h))), ⟨hco, .inl ho2⟩, hmv s3 (fun h e => h ((List.mem_append.1 e).elim id (fun h => by simp at h)))⟩, hfar (by omega) h1, k5, k6⟩, ?_⟩
      exact (((hW.trans (hb.mono hW.size)).setCell (p := ⟨w.heap.size, 6, none⟩) (Nat.le_refl _) _).setCell (p := ⟨w.heap.size, 6 + 1, none⟩) (Nat.le_refl _) _).setCell (p := ⟨w.heap.size, 6 + 2, none⟩) (Nat.le_refl _) _
    · have x0 := hv.cell 9
      have x1 := hv.cell 10
      have x2 := hv.cell 11
      simp only [lgA, lgZ, lgS] at x0 x1 x2
      obtain ⟨ea1, ea2, ea3, ea4, ra⟩ := gra.out.2.2.2
      have hr := s3.reads (c0' := 0) ra hW
      have hd := dtwin_any ag3 X3 an3 c3 ae3 m.a.ls ea3 (by rw [← ea3]; exact gsm.out.2.2.2) W hr
      clear ea1 ea2 ea3 ea4 ra hr
      have hv' := fun w' (h : Below W.heap.size W w') => hv.below h hv.lt
      gi_wp2_with (refine ⟨trivial, ?_⟩; gi_at_call 69; refine (CallsIn.inRound l (callsIn_wide.2 hd)).mono ?_; rintro e w2 ⟨Xo, co, rfl, hco, ho, hb⟩; have hv2 := hv' w2 hb; have y0 := hv2.cell 9; have y1 := hv2.cell 10; have y2 := hv2.cell 11; have f0 := hv2.frozen 9; have f1 := hv2.frozen 10; have f2 := hv2.frozen 11; simp only [lgA, lgZ, lgS] at y0 y1 y2; clear hd hv' x0 x1 x2)
      have hl := hv.lt
      have hg : W.grownBy w2 none := ⟨hb.os, hb.tape, hb.output, hb.size, fun k hk _ => hb.block k hk⟩
      have hv3 := blk3 (i := 9) (ds := #[.bool ag0, .slice X0 an0 c0, .int .i64 ae0, .bool ag1, .slice X1 an1 c1, .int .i64 ae1, .bool ag2, .slice X2 an2 c2, .int .i64 ae2, .bool ag3, .slice Xo an3 co, .int .i64 ae3]) hv2 (.bool ag3) (.slice Xo an3 co) (.int .i64 ae3) (by simp)
      have hsW : w.heap.size + 4 ≤ W.heap.size := h6.lt
      have ho2 := OwnR.far (OwnR.far (OwnR.far (ho.base_le hsW) (p := ⟨w.heap.size, 9, none⟩) (by simp) (.bool ag3)) (p := ⟨w.heap.size, 9 + 1, none⟩) (by simp) (.slice Xo an3 co)) (p := ⟨w.heap.size, 9 + 2, none⟩) (by simp) (.int .i64 ae3)
      have hmv : ∀ {n c c0 : Nat} {l : List Nat} {X0 X : Option Addr} {out out' : Prop}, StT W (w.heap.size + 4) n l X0 c0 out X c → (out → out') → StT (((w2.setCell ⟨w.heap.size, 9, none⟩ (.bool ag3)).setCell ⟨w.heap.size, 9 + 1, none⟩ (.slice Xo an3 co)).setCell ⟨w.heap.size, 9 + 2, none⟩ (.int .i64 ae3)) (w.heap.size + 4) n l X0 c0 out' X c := fun h hh => h.map (fun h => OwnR.far (OwnR.far (OwnR.far (h.below hb) (p := ⟨w.heap.size, 9, none⟩) (by simp) _) (p := ⟨w.heap.size, 9 + 1, none⟩) (by simp) _) (p := ⟨w.heap.size, 9 + 2, none⟩) (by simp) _) hh
      have hfar : ∀ {g : Nat} {t : TypeId} {cs : Array Value}, w.heap.size < g → Blk W g t cs → Blk (((w2.setCell ⟨w.heap.size, 9, none⟩ (.bool ag3)).setCell ⟨w.heap.size, 9 + 1, none⟩ (.slice Xo an3 co)).setCell ⟨w.heap.size, 9 + 2, none⟩ (.int .i64 ae3)) g t cs := fun hg h => (((h.below hb h.lt).far (p := ⟨w.heap.size, 9, none⟩) (by simp; omega) _).far (p := ⟨w.heap.size, 9 + 1, none⟩) (by simp; omega) _).far (p := ⟨w.heap.size, 9 + 2, none⟩) (by simp; omega) _
      have k5 := hfar (by omega) h5
      have k6 := hfar (by omega) h6
      refine ⟨((KeepsOthers.of_grownBy hg (fun j o e ho => by cases e)).trans (KeepsOthers.setCell _ _ _)).trans ((KeepsOthers.setCell _ _ _).trans (KeepsOthers.setCell _ _ _)), ⟨(k5.cell 0).trans (h5.cell 0).symm, (k6.cell 0).trans (h6.cell 0).symm⟩, ⟨⟨X0, c0, X1, c1, X2, c2, Xo, co, hv3, hmv s0 (fun h e => h ((List.mem_append.1 e).elim id (fun h => by simp at h))), hmv s1 (fun h e => h ((List.mem_append.1 e).elim id (fun h => by simp at h))), hmv s2 (fun h e => h ((List.mem_append.1 e).elim id (fun h => by simp at h))), ⟨hco, .inl ho2⟩⟩, hfar (by omega) h1, k5, k6⟩, ?_⟩
      exact (((hW.trans (hb.mono hW.size)).setCell (p := ⟨w.heap.size, 9, none⟩) (Nat.le_refl _) _).setCell (p := ⟨w.heap.size, 9 + 1, none⟩) (Nat.le_refl _) _).setCell (p := ⟨w.heap.size, 9 + 2, none⟩) (Nat.le_refl _) _
  case done =>
    rintro D ys W hD rfl ⟨⟨⟨X0, c0, X1, c1, X2, c2, X3, c3, hv, s0, s1, s2, s3⟩, h1, _, _⟩, hW⟩ hK
    have i0 := s0.1
    have i1 := s1.1
    have i2 := s2.1
    have i3 := s3.1
    have o0 := s0.2.elim id (fun h => absurd (by simp) h.1)
    have o1 := s1.2.elim id (fun h => absurd (by simp) h.1)
    have o2 := s2.2.elim id (fun h => absurd (by simp) h.1)
    have o3 := s3.2.elim id (fun h => absurd (by simp) h.1)
    have x0 := hv.cell 0
    have x1 := hv.cell 1
    have x2 := hv.cell 2
    have x3 := hv.cell 3
    have x4 := hv.cell 4
    have x5 := hv.cell 5
    have x6 := hv.cell 6
    have x7 := hv.cell 7
    have x8 := hv.cell 8
    have x9 := hv.cell 9
    have x10 := hv.cell 10
    have x11 := hv.cell 11
    have y0 := h1.cell 0
    have y1 := h1.cell 1
    have y2 := h1.cell 2
    have y3 := h1.cell 3
    have y4 := h1.cell 4
    have y5 := h1.cell 5
    have y6 := h1.cell 6
    have y7 := h1.cell 7
    have y8 := h1.cell 8
    have y9 := h1.cell 9
    have y10 := h1.cell 10
    have y11 := h1.cell 11
    have f0 := h1.frozen 0
    have f1 := h1.frozen 1
    have f2 := h1.frozen 2
    have f3 := h1.frozen 3
    have f4 := h1.frozen 4
    have f5 := h1.frozen 5
    have f6 := h1.frozen 6
    have f7 := h1.frozen 7
    have f8 := h1.frozen 8
    have f9 := h1.frozen 9
    have f10 := h1.frozen 10
    have f11 := h1.frozen 11
    simp only [lgA, lgZ, lgS] at x0 y0 x1 y1 x2 y2 x3 y3 x4 y4 x5 y5 x6 y6 x7 y7 x8 y8 x9 y9 x10 y10 x11 y11
    have hD' : w.heap.size + 4 ≤ D := by rw [gsz.out] at hD; exact hD
    have hDl : D < W.heap.size := (Array.getElem?_eq_some_iff.1 hK).1
    obtain ⟨W9, hW9⟩ : ∃ W9, W9 = (((((((((((W.setCell ⟨w.heap.size + 1, 0, none⟩ (.bool ag0)).setCell ⟨w.heap.size + 1, 1, none⟩ (.slice X0 an0 c0)).setCell ⟨w.heap.size + 1, 2, none⟩ (.int .i64 ae0)).setCell ⟨w.heap.size + 1, 3, none⟩ (.bool ag1)).setCell ⟨w.heap.size + 1, 4, none⟩ (.slice X1 an1 c1)).setCell ⟨w.heap.size + 1, 5, none⟩ (.int .i64 ae1)).setCell ⟨w.heap.size + 1, 6, none⟩ (.bool ag2)).setCell ⟨w.heap.size + 1, 7, none⟩ (.slice X2 an2 c2)).setCell ⟨w.heap.size + 1, 8, none⟩ (.int .i64 ae2)).setCell ⟨w.heap.size + 1, 9, none⟩ (.bool ag3)).setCell ⟨w.heap.size + 1, 10, none⟩ (.slice X3 an3 c3)).setCell ⟨w.heap.size + 1, 11, none⟩ (.int .i64 ae3) := ⟨_, rfl⟩
    have hK2 : W9.heap[D]? = some (.deferred (some [])) := by rw [hW9]; exact (KeepsOthers.setCell _ ⟨w.heap.size + 1, 11, none⟩ _).same D _ ((KeepsOthers.setCell _ ⟨w.heap.size + 1, 10, none⟩ _).same D _ ((KeepsOthers.setCell _ ⟨w.heap.size + 1, 9, none⟩ _).same D _ ((KeepsOthers.setCell _ ⟨w.heap.size + 1, 8, none⟩ _).same D _ ((KeepsOthers.setCell _ ⟨w.heap.size + 1, 7, none⟩ _).same D _ ((KeepsOthers.setCell _ ⟨w.heap.size + 1, 6, none⟩ _).same D _ ((KeepsOthers.setCell _ ⟨w.heap.size + 1, 5, none⟩ _).same D _ ((KeepsOthers.setCell _ ⟨w.heap.size + 1, 4, none⟩ _).same D _ ((KeepsOthers.setCell _ ⟨w.heap.size + 1, 3, none⟩ _).same D _ ((KeepsOthers.setCell _ ⟨w.heap.size + 1, 2, none⟩ _).same D _ ((KeepsOthers.setCell _ ⟨w.heap.size + 1, 1, none⟩ _).same D _ ((KeepsOthers.setCell _ ⟨w.heap.size + 1, 0, none⟩ _).same D _ (hK) rfl) rfl) rfl) rfl) rfl) rfl) rfl) rfl) rfl) rfl) rfl) rfl
    have B5 : Blk W9 (w.heap.size + 1) 26 #[.bool ag0, .slice X0 an0 c0, .int .i64 ae0, .bool ag1, .slice X1 an1 c1, .int .i64 ae1, .bool ag2, .slice X2 an2 c2, .int .i64 ae2, .bool ag3, .slice X3 an3 c3, .int .i64 ae3] := by rw [hW9]; exact blk12T h1 (.bool ag0) (.slice X0 an0 c0) (.int .i64 ae0) (.bool ag1) (.slice X1 an1 c1) (.int .i64 ae1) (.bool ag2) (.slice X2 an2 c2) (.int .i64 ae2) (.bool ag3) (.slice X3 an3 c3) (.int .i64 ae3)
    have B6 := B5.grown (grownBy_putObj' _ D (.deferred none)) (by simp; omega)
    have q0 := B6.cell 0
    have q1 := B6.cell 1
    have q2 := B6.cell 2
    have q3 := B6.cell 3
    have q4 := B6.cell 4
    have q5 := B6.cell 5
    have q6 := B6.cell 6
    have q7 := B6.cell 7
    have q8 := B6.cell 8
    have q9 := B6.cell 9
    have q10 := B6.cell 10
    have q11 := B6.cell 11
    simp only [lgA, lgZ, lgS] at q0 q1 q2 q3 q4 q5 q6 q7 q8 q9 q10 q11
    have hb9 : Below w.heap.size w W9 := by rw [hW9]; exact Below.setCell (p := ⟨w.heap.size + 1, 11, none⟩) (Below.setCell (p := ⟨w.heap.size + 1, 10, none⟩) (Below.setCell (p := ⟨w.heap.size + 1, 9, none⟩) (Below.setCell (p := ⟨w.heap.size + 1, 8, none⟩) (Below.setCell (p := ⟨w.heap.size + 1, 7, none⟩) (Below.setCell (p := ⟨w.heap.size + 1, 6, none⟩) (Below.setCell (p := ⟨w.heap.size + 1, 5, none⟩) (Below.setCell (p := ⟨w.heap.size + 1, 4, none⟩) (Below.setCell (p := ⟨w.heap.size + 1, 3, none⟩) (Below.setCell (p := ⟨w.heap.size + 1, 2, none⟩) (Below.setCell (p := ⟨w.heap.size + 1, 1, none⟩) (Below.setCell (p := ⟨w.heap.size + 1, 0, none⟩) (hW) (by simp) _) (by simp) _) (by simp) _) (by simp) _) (by simp) _) (by simp) _) (by simp) _) (by simp) _) (by simp) _) (by simp) _) (by simp) _) (by simp) _
    have hof : ∀ {n : Nat} {X : Option Addr} {xs : List Value}, OwnR W (w.heap.size + 4) 52 X n xs → OwnR W9 w.heap.size 52 X n xs := fun h => by rw [hW9]; exact OwnR.base_le (OwnR.far (p := ⟨w.heap.size + 1, 11, none⟩) (OwnR.far (p := ⟨w.heap.size + 1, 10, none⟩) (OwnR.far (p := ⟨w.heap.size + 1, 9, none⟩) (OwnR.far (p := ⟨w.heap.size + 1, 8, none⟩) (OwnR.far (p := ⟨w.heap.size + 1, 7, none⟩) (OwnR.far (p := ⟨w.heap.size + 1, 6, none⟩) (OwnR.far (p := ⟨w.heap.size + 1, 5, none⟩) (OwnR.far (p := ⟨w.heap.size + 1, 4, none⟩) (OwnR.far (p := ⟨w.heap.size + 1, 3, none⟩) (OwnR.far (p := ⟨w.heap.size + 1, 2, none⟩) (OwnR.far (p := ⟨w.heap.size + 1, 1, none⟩) (OwnR.far (p := ⟨w.heap.size + 1, 0, none⟩) (h) (by simp) _) (by simp) _) (by simp) _) (by simp) _) (by simp) _) (by simp) _) (by simp) _) (by simp) _) (by simp) _) (by simp) _) (by simp) _) (by simp) _) (by omega)
    clear B5 B6 hv h1 s0 s1 s2 s3
    gi_wp2
    rw [← hW9]
    refine ⟨by simp, .inl ⟨_, _, rfl, run_takeDeferred hK2, ?_⟩⟩
    have hrD : ∀ r, some D = some r → ∃ o : Obj, W9.heap[r]? = some o ∧ o.isCells = false := fun r e => by injection e with e; subst e; exact ⟨_, hK2, rfl⟩
    refine ⟨.agg #[.bool ag0, .slice X0 an0 c0, .int .i64 ae0, .bool ag1, .slice X1 an1 c1, .int .i64 ae1, .bool ag2, .slice X2 an2 c2, .int .i64 ae2, .bool ag3, .slice X3 an3 c3, .int .i64 ae3], ?_, X0, c0, X1, c1, X2, c2, X3, c3, rfl, ⟨i0, ownR_own (hof o0) (grownBy_putObj' _ D _) hrD⟩, ⟨i1, ownR_own (hof o1) (grownBy_putObj' _ D _) hrD⟩, ⟨i2, ownR_own (hof o2) (grownBy_putObj' _ D _) hrD⟩, ⟨i3, ownR_own (hof o3) (grownBy_putObj' _ D _) hrD⟩, hb9.trans (belowK_b (w := w) (Nat.le_refl _) _ D _ _ (by omega) hK2 rfl rfl)⟩
    simp [results, Try.f37, go_sem, q0, q1, q2, q3, q4, q5, q6, q7, q8, q9, q10, q11]
  case stop =>
    rintro D c pre W _ _ h _
    exact h.elim
end
set_option maxHeartbeats 2000000 in
theorem dmay_high_posT (neg : Bool) (A : Option Addr) (n c : Nat) (l : List Int) (hn : l.length = n) (e : Int) (hL : ∀ w B, Reads w B 1 A n (u32s l) → Calls Try.prog 100 #[.slice A n c] w fun en w' => en = .returned (.bool true) ∧ w = w') (hz : 0 < n) (h : 1024 < e) (w : World) (hR : Reads w w.heap.size 1 A n (u32s l)) :
    Calls Try.prog 86 #[dy neg A n c e] w fun en w' => en = .returned (.bool false) ∧ Below w.heap.size w w' := by
  have z : ((n : Int) == 0) = false := by simp; omega
  have e1 : decide (e < 0) = false := by simp; omega
  have e2 : decide ((1024 : Int) < e) = true := by simp; omega
  go_enter Try.func86, Try.ntmps86
  go_wp2_with fail
  refine (hL _ w.heap.size (hR.alloc (Nat.le_refl _) _)).mono ?_
  rintro en w1 ⟨rfl, rfl⟩
  clear hL hR hn
  go_wp2
  go_ret
  exact ⟨rfl, (Below.refl _ w).alloc (Nat.le_refl _) _⟩
set_option maxHeartbeats 2000000 in
theorem dmay_evenT (neg : Bool) (A : Option Addr) (n c : Nat) (l : List Int) (hn : l.length = n) (e : Int) (hL : ∀ w B, Reads w B 1 A n (u32s l) → Calls Try.prog 100 #[.slice A n c] w fun en w' => en = .returned (.bool true) ∧ w = w') (hz : 0 < n) (h : 0 < e) (h2 : e ≤ 1024) (hp : (l.getD 0 0).tmod 2 = 0) (w : World) (hR : Reads w w.heap.size 1 A n (u32s l)) :
    Calls Try.prog 86 #[dy neg A n c e] w fun en w' => en = .returned (.bool false) ∧ Below w.heap.size w w' := by
  have z : ((n : Int) == 0) = false := by simp; omega
  have e1 : decide (e < 0) = false := by simp; omega
  have e2 : decide ((1024 : Int) < e) = false := by simp; omega
  have e3 : (e == 0) = false := by simp; omega
  have e4 : (e != 0) = true := by simp; omega
  have e5 : decide (0 < e) = true := by simp; omega
  obtain ⟨ad, hA, hab, cA⟩ := at_u32 hn (hR.alloc (Nat.le_refl _) (.cells #[.bool neg, .slice A n c, .int .i64 e] 24)) (show 0 < n by omega)
  subst hA
  rw [Addr.add_zero'] at cA
  obtain ⟨x, hx⟩ : ∃ x, l.getD 0 0 = x := ⟨_, rfl⟩
  rw [hx] at cA hp
  have p1 : (x.tmod 2 == 1) = false := by simp; omega
  have p0 : (x.tmod 2 == 0) = true := by simp; omega
  have i2 : (0 : Int) < n := by omega
  clear hx hp
  go_enter Try.func86, Try.ntmps86
  go_wp2_with fail
  refine (hL _ w.heap.size (hR.alloc (Nat.le_refl _) _)).mono ?_
  rintro en w1 ⟨rfl, rfl⟩
  clear hL hR hn
  go_wp2
  go_ret
  exact ⟨rfl, (Below.refl _ w).alloc (Nat.le_refl _) _⟩
set_option maxHeartbeats 1000000 in
theorem lmay_manyT (A : Option Addr) (n c B : Nat) (h : 40 < n) (w : World) :
    Calls Try.prog 100 #[.slice A n c] w fun en w' => en = .returned (.bool false) ∧ w = w' := by
  have d1 : decide ((40 : Int) < n) = true := by simp; omega
  have d1' : decide ((n : Int) ≤ 40) = false := by simp; omega
  go_enter Try.func100, Try.ntmps100
  go_wp2
  go_ret
  exact ⟨rfl, rfl⟩
theorem lmay_noneT (A : Option Addr) (c : Nat) (w : World) :
    Calls Try.prog 100 #[.slice A 0 c] w fun en w' => en = .returned (.bool true) ∧ w = w' := by
  go_enter Try.func100, Try.ntmps100
  go_wp2
  go_ret
  exact ⟨rfl, rfl⟩
set_option maxHeartbeats 1000000 in
theorem lmay_zeroT (A : Option Addr) (n c B : Nat) (l : List Int) (hn : l.length = n) (h0 : 0 < n) (h : n ≤ 40) (hz : l.getD (n - 1) 0 = 0) (w : World) (hR : Reads w B 1 A n (u32s l)) :
    Calls Try.prog 100 #[.slice A n c] w fun en w' => en = .returned (.bool false) ∧ w = w' := by
  have d1 : decide ((40 : Int) < n) = false := by simp; omega
  have d1' : decide ((n : Int) ≤ 40) = true := by simp; omega
  have d2 : decide ((0 : Int) < n) = true := by simp; omega
  have d3 : ((n : Int) == 0) = false := by simp; omega
  have d3' : ((n : Int) != 0) = true := by simp; omega
  have w0 : IntKind.i64.wrap ((n : Int) - 1) = (n : Int) - 1 := IntWalk.i64_in _ (by omega)
  have i1 : (0 : Int) ≤ n - 1 := by omega
  have i2 : (n : Int) - 1 < n := by omega
  obtain ⟨j, hj⟩ : ∃ j, n = j + 1 := ⟨n - 1, by omega⟩
  have hj0 : (n : Int) - 1 = (j : Int) := by omega
  have i3 : (0 : Int) ≤ j := by omega
  have i4 : (j : Int) < n := by omega
  have w1 : IntKind.i64.wrap (j : Int) = (j : Int) := IntWalk.i64_in _ (by omega)
  have w2 : wrap64 (j : Int) = (j : Int) := by unfold wrap64; omega
  obtain ⟨ad, rfl, hab, cA⟩ := at_u32 hn hR (show j < n by omega)
  rw [show n - 1 = j by omega] at hz
  obtain ⟨x, hx⟩ : ∃ x, l.getD j 0 = x := ⟨_, rfl⟩
  rw [hx] at cA hz
  have d4 : (x == 0) = true := by simpa using hz
  have d5 : (x != 0) = false := by simpa using hz
  clear hR hn hj hx hz h h0
  go_enter Try.func100, Try.ntmps100
  go_wp2
  go_ret
  exact ⟨rfl, rfl⟩
set_option maxHeartbeats 1000000 in
theorem lmay_okT (A : Option Addr) (n c B : Nat) (l : List Int) (hn : l.length = n) (h0 : 0 < n) (h : n ≤ 40) (hz : l.getD (n - 1) 0 ≠ 0) (w : World) (hR : Reads w B 1 A n (u32s l)) :
    Calls Try.prog 100 #[.slice A n c] w fun en w' => en = .returned (.bool true) ∧ w = w' := by
  have d1 : decide ((40 : Int) < n) = false := by simp; omega
  have d1' : decide ((n : Int) ≤ 40) = true := by simp; omega
  have d2 : decide ((0 : Int) < n) = true := by simp; omega
  have d3 : ((n : Int) == 0) = false := by simp; omega
  have d3' : ((n : Int) != 0) = true := by simp; omega
  have w0 : IntKind.i64.wrap ((n : Int) - 1) = (n : Int) - 1 := IntWalk.i64_in _ (by omega)
  have i1 : (0 : Int) ≤ n - 1 := by omega
  have i2 : (n : Int) - 1 < n := by omega
  obtain ⟨j, hj⟩ : ∃ j, n = j + 1 := ⟨n - 1, by omega⟩
  have hj0 : (n : Int) - 1 = (j : Int) := by omega
  have i3 : (0 : Int) ≤ j := by omega
  have i4 : (j : Int) < n := by omega
  have w1 : IntKind.i64.wrap (j : Int) = (j : Int) := IntWalk.i64_in _ (by omega)
  have w2 : wrap64 (j : Int) = (j : Int) := by unfold wrap64; omega
  obtain ⟨ad, rfl, hab, cA⟩ := at_u32 hn hR (show j < n by omega)
  rw [show n - 1 = j by omega] at hz
  obtain ⟨x, hx⟩ : ∃ x, l.getD j 0 = x := ⟨_, rfl⟩
  rw [hx] at cA hz
  have d4 : (x == 0) = false := by simpa using hz
  have d5 : (x != 0) = true := by simpa using hz
  clear hR hn hj hx hz h h0
  go_enter Try.func100, Try.ntmps100
  go_wp2
  go_ret
  exact ⟨rfl, rfl⟩
theorem lmay_anyT (A : Option Addr) (n c B : Nat) (l : List Int) (hn : l.length = n) (w : World) (hR : Reads w B 1 A n (u32s l)) :
    Calls Try.prog 100 #[.slice A n c] w fun en w' => en = .returned (if mayL l = true then .bool true else .bool false) ∧ w = w' := by
  by_cases h : 40 < n
  · have : mayL l = false := decide_eq_false (by omega)
    rw [this]
    exact lmay_manyT A n c B h w
  · rcases Nat.eq_zero_or_pos n with h0 | h0
    · have : mayL l = true := decide_eq_true (by omega)
      rw [this]
      subst h0
      exact lmay_noneT A c w
    · by_cases hz : l.getD (n - 1) 0 = 0
      · have : mayL l = false := decide_eq_false (by rw [hn]; omega)
        rw [this]
        exact lmay_zeroT A n c B l hn h0 (by omega) hz w hR
      · have : mayL l = true := decide_eq_true (by rw [hn]; exact ⟨by omega, .inr hz⟩)
        rw [this]
        exact lmay_okT A n c B l hn h0 (by omega) hz w hR
set_option maxHeartbeats 2000000 in
theorem dmay_oddT (neg : Bool) (A : Option Addr) (n c : Nat) (l : List Int) (hn : l.length = n) (e : Int) (hL : ∀ w B, Reads w B 1 A n (u32s l) → Calls Try.prog 100 #[.slice A n c] w fun en w' => en = .returned (.bool true) ∧ w = w') (hz : 0 < n) (h : 0 < e) (h2 : e ≤ 1024) (hp : (l.getD 0 0).tmod 2 = 1) (w : World) (hR : Reads w w.heap.size 1 A n (u32s l)) :
    Calls Try.prog 86 #[dy neg A n c e] w fun en w' => en = .returned (.bool true) ∧ Below w.heap.size w w' := by
  have z : ((n : Int) == 0) = false := by simp; omega
  have e1 : decide (e < 0) = false := by simp; omega
  have e2 : decide ((1024 : Int) < e) = false := by simp; omega
  have e3 : (e == 0) = false := by simp; omega
  have e4 : (e != 0) = true := by simp; omega
  have e5 : decide (0 < e) = true := by simp; omega
  obtain ⟨ad, hA, hab, cA⟩ := at_u32 hn (hR.alloc (Nat.le_refl _) (.cells #[.bool neg, .slice A n c, .int .i64 e] 24)) (show 0 < n by omega)
  subst hA
  rw [Addr.add_zero'] at cA
  obtain ⟨x, hx⟩ : ∃ x, l.getD 0 0 = x := ⟨_, rfl⟩
  rw [hx] at cA hp
  have p1 : (x.tmod 2 == 1) = true := by simp; omega
  have p0 : (x.tmod 2 == 0) = false := by simp; omega
  have i2 : (0 : Int) < n := by omega
  clear hx hp
  go_enter Try.func86, Try.ntmps86
  go_wp2_with fail
  refine (hL _ w.heap.size (hR.alloc (Nat.le_refl _) _)).mono ?_
  rintro en w1 ⟨rfl, rfl⟩
  clear hL hR hn
  go_wp2
  go_ret
  exact ⟨rfl, (Below.refl _ w).alloc (Nat.le_refl _) _⟩
set_option maxHeartbeats 2000000 in
theorem dmay_lim_zeroT (neg : Bool) (A : Option Addr) (n c : Nat) (l : List Int) (hn : l.length = n) (e : Int) (hL : ∀ w B, Reads w B 1 A n (u32s l) → Calls Try.prog 100 #[.slice A n c] w fun en w' => en = .returned (.bool false) ∧ w = w') (hz : n = 0) (w : World) (hR : Reads w w.heap.size 1 A n (u32s l)) :
    Calls Try.prog 86 #[dy neg A n c e] w fun en w' => en = .returned (.bool false) ∧ Below w.heap.size w w' := by
  have z : ((n : Int) == 0) = true := by simp; omega
  clear hz
  go_enter Try.func86, Try.ntmps86
  go_wp2_with fail
  refine (hL _ w.heap.size (hR.alloc (Nat.le_refl _) _)).mono ?_
  rintro en w1 ⟨rfl, rfl⟩
  clear hL hR hn
  go_wp2
  go_ret
  exact ⟨rfl, (Below.refl _ w).alloc (Nat.le_refl _) _⟩
set_option maxHeartbeats 2000000 in
theorem dmay_lim_posT (neg : Bool) (A : Option Addr) (n c : Nat) (l : List Int) (hn : l.length = n) (e : Int) (hL : ∀ w B, Reads w B 1 A n (u32s l) → Calls Try.prog 100 #[.slice A n c] w fun en w' => en = .returned (.bool false) ∧ w = w') (hz : 0 < n) (w : World) (hR : Reads w w.heap.size 1 A n (u32s l)) :
    Calls Try.prog 86 #[dy neg A n c e] w fun en w' => en = .returned (.bool false) ∧ Below w.heap.size w w' := by
  have z : ((n : Int) == 0) = false := by simp; omega
  go_enter Try.func86, Try.ntmps86
  go_wp2_with fail
  refine (hL _ w.heap.size (hR.alloc (Nat.le_refl _) _)).mono ?_
  rintro en w1 ⟨rfl, rfl⟩
  clear hL hR hn
  go_wp2
  go_ret
  exact ⟨rfl, (Below.refl _ w).alloc (Nat.le_refl _) _⟩
set_option maxHeartbeats 2000000 in
theorem dmay_high_zeroT (neg : Bool) (A : Option Addr) (n c : Nat) (l : List Int) (hn : l.length = n) (e : Int) (hL : ∀ w B, Reads w B 1 A n (u32s l) → Calls Try.prog 100 #[.slice A n c] w fun en w' => en = .returned (.bool true) ∧ w = w') (hz : n = 0) (h : 1024 < e) (w : World) (hR : Reads w w.heap.size 1 A n (u32s l)) :
    Calls Try.prog 86 #[dy neg A n c e] w fun en w' => en = .returned (.bool false) ∧ Below w.heap.size w w' := by
  have z : ((n : Int) == 0) = true := by simp; omega
  have e1 : decide (e < 0) = false := by simp; omega
  have e2 : decide ((1024 : Int) < e) = true := by simp; omega
  clear hz
  go_enter Try.func86, Try.ntmps86
  go_wp2_with fail
  refine (hL _ w.heap.size (hR.alloc (Nat.le_refl _) _)).mono ?_
  rintro en w1 ⟨rfl, rfl⟩
  clear hL hR hn
  go_wp2
  go_ret
  exact ⟨rfl, (Below.refl _ w).alloc (Nat.le_refl _) _⟩
set_option maxHeartbeats 2000000 in
theorem dmay_nilT (neg : Bool) (A : Option Addr) (n c : Nat) (l : List Int) (hn : l.length = n) (e : Int) (hL : ∀ w B, Reads w B 1 A n (u32s l) → Calls Try.prog 100 #[.slice A n c] w fun en w' => en = .returned (.bool true) ∧ w = w') (hz : n = 0) (h : e = 0) (hg : neg = false) (w : World) (hR : Reads w w.heap.size 1 A n (u32s l)) :
    Calls Try.prog 86 #[dy neg A n c e] w fun en w' => en = .returned (.bool true) ∧ Below w.heap.size w w' := by
  subst hg
  have z : ((n : Int) == 0) = true := by simp; omega
  subst h
  clear hz
  go_enter Try.func86, Try.ntmps86
  go_wp2_with fail
  refine (hL _ w.heap.size (hR.alloc (Nat.le_refl _) _)).mono ?_
  rintro en w1 ⟨rfl, rfl⟩
  clear hL hR hn
  go_wp2
  go_ret
  exact ⟨rfl, (Below.refl _ w).alloc (Nat.le_refl _) _⟩
set_option maxHeartbeats 2000000 in
theorem dmay_low_posT (neg : Bool) (A : Option Addr) (n c : Nat) (l : List Int) (hn : l.length = n) (e : Int) (hL : ∀ w B, Reads w B 1 A n (u32s l) → Calls Try.prog 100 #[.slice A n c] w fun en w' => en = .returned (.bool true) ∧ w = w') (hz : 0 < n) (h : e < 0) (w : World) (hR : Reads w w.heap.size 1 A n (u32s l)) :
    Calls Try.prog 86 #[dy neg A n c e] w fun en w' => en = .returned (.bool false) ∧ Below w.heap.size w w' := by
  have z : ((n : Int) == 0) = false := by simp; omega
  have e1 : decide (e < 0) = true := by simp; omega
  have e2 : decide ((1024 : Int) < e) = false := by simp; omega
  go_enter Try.func86, Try.ntmps86
  go_wp2_with fail
  refine (hL _ w.heap.size (hR.alloc (Nat.le_refl _) _)).mono ?_
  rintro en w1 ⟨rfl, rfl⟩
  clear hL hR hn
  go_wp2
  go_ret
  exact ⟨rfl, (Below.refl _ w).alloc (Nat.le_refl _) _⟩
set_option maxHeartbeats 2000000 in
theorem dmay_wholeT (neg : Bool) (A : Option Addr) (n c : Nat) (l : List Int) (hn : l.length = n) (e : Int) (hL : ∀ w B, Reads w B 1 A n (u32s l) → Calls Try.prog 100 #[.slice A n c] w fun en w' => en = .returned (.bool true) ∧ w = w') (hz : 0 < n) (h : e = 0) (w : World) (hR : Reads w w.heap.size 1 A n (u32s l)) :
    Calls Try.prog 86 #[dy neg A n c e] w fun en w' => en = .returned (.bool true) ∧ Below w.heap.size w w' := by
  have z : ((n : Int) == 0) = false := by simp; omega
  subst h
  go_enter Try.func86, Try.ntmps86
  go_wp2_with fail
  refine (hL _ w.heap.size (hR.alloc (Nat.le_refl _) _)).mono ?_
  rintro en w1 ⟨rfl, rfl⟩
  clear hL hR hn
  go_wp2
  go_ret
  exact ⟨rfl, (Below.refl _ w).alloc (Nat.le_refl _) _⟩
set_option maxHeartbeats 2000000 in
theorem dmay_low_zeroT (neg : Bool) (A : Option Addr) (n c : Nat) (l : List Int) (hn : l.length = n) (e : Int) (hL : ∀ w B, Reads w B 1 A n (u32s l) → Calls Try.prog 100 #[.slice A n c] w fun en w' => en = .returned (.bool true) ∧ w = w') (hz : n = 0) (h : e < 0) (w : World) (hR : Reads w w.heap.size 1 A n (u32s l)) :
    Calls Try.prog 86 #[dy neg A n c e] w fun en w' => en = .returned (.bool false) ∧ Below w.heap.size w w' := by
  have z : ((n : Int) == 0) = true := by simp; omega
  have e1 : decide (e < 0) = true := by simp; omega
  have e2 : decide ((1024 : Int) < e) = false := by simp; omega
  clear hz
  go_enter Try.func86, Try.ntmps86
  go_wp2_with fail
  refine (hL _ w.heap.size (hR.alloc (Nat.le_refl _) _)).mono ?_
  rintro en w1 ⟨rfl, rfl⟩
  clear hL hR hn
  go_wp2
  go_ret
  exact ⟨rfl, (Below.refl _ w).alloc (Nat.le_refl _) _⟩
set_option maxHeartbeats 2000000 in
theorem dmay_expT (neg : Bool) (A : Option Addr) (n c : Nat) (l : List Int) (hn : l.length = n) (e : Int) (hL : ∀ w B, Reads w B 1 A n (u32s l) → Calls Try.prog 100 #[.slice A n c] w fun en w' => en = .returned (.bool true) ∧ w = w') (hz : n = 0) (h : 0 < e) (h2 : e ≤ 1024) (w : World) (hR : Reads w w.heap.size 1 A n (u32s l)) :
    Calls Try.prog 86 #[dy neg A n c e] w fun en w' => en = .returned (.bool false) ∧ Below w.heap.size w w' := by
  have z : ((n : Int) == 0) = true := by simp; omega
  have e1 : decide (e < 0) = false := by simp; omega
  have e2 : decide ((1024 : Int) < e) = false := by simp; omega
  have e3 : (e == 0) = false := by simp; omega
  have e4 : (e != 0) = true := by simp; omega
  have e5 : decide (0 < e) = true := by simp; omega
  clear hz
  go_enter Try.func86, Try.ntmps86
  go_wp2_with fail
  refine (hL _ w.heap.size (hR.alloc (Nat.le_refl _) _)).mono ?_
  rintro en w1 ⟨rfl, rfl⟩
  clear hL hR hn
  go_wp2
  go_ret
  exact ⟨rfl, (Below.refl _ w).alloc (Nat.le_refl _) _⟩
set_option maxHeartbeats 2000000 in
theorem dmay_negT (neg : Bool) (A : Option Addr) (n c : Nat) (l : List Int) (hn : l.length = n) (e : Int) (hL : ∀ w B, Reads w B 1 A n (u32s l) → Calls Try.prog 100 #[.slice A n c] w fun en w' => en = .returned (.bool true) ∧ w = w') (hz : n = 0) (h : e = 0) (hg : neg = true) (w : World) (hR : Reads w w.heap.size 1 A n (u32s l)) :
    Calls Try.prog 86 #[dy neg A n c e] w fun en w' => en = .returned (.bool false) ∧ Below w.heap.size w w' := by
  subst hg
  have z : ((n : Int) == 0) = true := by simp; omega
  subst h
  clear hz
  go_enter Try.func86, Try.ntmps86
  go_wp2_with fail
  refine (hL _ w.heap.size (hR.alloc (Nat.le_refl _) _)).mono ?_
  rintro en w1 ⟨rfl, rfl⟩
  clear hL hR hn
  go_wp2
  go_ret
  exact ⟨rfl, (Below.refl _ w).alloc (Nat.le_refl _) _⟩
theorem dmay_anyT (neg : Bool) (A : Option Addr) (n c : Nat) (l : List Int) (hn : l.length = n) (hl : ∀ x ∈ l, 0 ≤ x) (e : Int) (w : World) (hR : Reads w w.heap.size 1 A n (u32s l)) :
    Calls Try.prog 86 #[dy neg A n c e] w fun en w' => en = .returned (if mayD neg l e = true then .bool true else .bool false) ∧ Below w.heap.size w w' := by
  have hL := fun w B h => lmay_anyT A n c B l hn w h
  by_cases hm : mayL l = true
  · rw [hm] at hL
    have key : ∀ b, (decide (0 ≤ e ∧ e ≤ 1024 ∧ (l.length = 0 → e = 0 ∧ neg = false) ∧ (l.length ≠ 0 → e = 0 ∨ (l.getD 0 0).tmod 2 = 1))) = b → mayD neg l e = b := fun b hb => by
      unfold mayD
      rw [hm, hb]
      rfl
    rcases Nat.eq_zero_or_pos n with hz | hz
    · by_cases h1 : e < 0
      · rw [key false (decide_eq_false (by omega))]
        exact dmay_low_zeroT neg A n c l hn e hL hz h1 w hR
      · by_cases h2 : 1024 < e
        · rw [key false (decide_eq_false (by omega))]
          exact dmay_high_zeroT neg A n c l hn e hL hz h2 w hR
        · by_cases h3 : e = 0
          · cases hg : neg
            · subst hg
              rw [key true (decide_eq_true ⟨by omega, by omega, fun _ => ⟨h3, rfl⟩, fun h => absurd (hn.trans hz) h⟩)]
              exact dmay_nilT false A n c l hn e hL hz h3 rfl w hR
            · subst hg
              rw [key false (decide_eq_false (fun h => by have := (h.2.2.1 (hn.trans hz)).2; cases this))]
              exact dmay_negT true A n c l hn e hL hz h3 rfl w hR
          · rw [key false (decide_eq_false (fun h => h3 (h.2.2.1 (hn.trans hz)).1))]
            exact dmay_expT neg A n c l hn e hL hz (by omega) (by omega) w hR
    · by_cases h1 : e < 0
      · rw [key false (decide_eq_false (by omega))]
        exact dmay_low_posT neg A n c l hn e hL hz h1 w hR
      · by_cases h2 : 1024 < e
        · rw [key false (decide_eq_false (by omega))]
          exact dmay_high_posT neg A n c l hn e hL hz h2 w hR
        · by_cases h3 : e = 0
          · rw [key true (decide_eq_true ⟨by omega, by omega, fun h => absurd h (by omega), fun _ => .inl h3⟩)]
            exact dmay_wholeT neg A n c l hn e hL hz h3 w hR
          · have h0 : 0 ≤ l.getD 0 0 := hl _ (by rw [List.getD_eq_getElem?_getD, List.getElem?_eq_getElem (by omega)]; exact List.getElem_mem _)
            by_cases hp : (l.getD 0 0).tmod 2 = 1
            · rw [key true (decide_eq_true ⟨by omega, by omega, fun h => absurd h (by omega), fun _ => .inr hp⟩)]
              exact dmay_oddT neg A n c l hn e hL hz (by omega) (by omega) hp w hR
            · rw [key false (decide_eq_false (fun h => by rcases h.2.2.2 (by omega) with h | h <;> omega))]
              exact dmay_evenT neg A n c l hn e hL hz (by omega) (by omega) (by rw [Int.tmod_eq_emod_of_nonneg h0] at hp ⊢; omega) w hR
  · have hm : mayL l = false := by simpa using hm
    rw [hm] at hL
    have : mayD neg l e = false := by unfold mayD; rw [hm]; rfl
    rw [this]
    rcases Nat.eq_zero_or_pos n with hz | hz
    · exact dmay_lim_zeroT neg A n c l hn e hL hz w hR
    · exact dmay_lim_posT neg A n c l hn e hL hz w hR
theorem rdmay_anyT (g : Bool) (X : Option Addr) (n c : Nat) (e : Int) (d : Dy) (Q : Bool) (hQ : mayd d = Q) (w : World) (h : RdD w w.heap.size g X n c e d) :
    Calls Try.prog 86 #[.agg #[.bool g, .slice X n c, .int .i64 e]] w fun en w' => en = .returned (.bool Q) ∧ Below w.heap.size w w' := by
  obtain ⟨rfl, rfl, h3, h4, h5⟩ := h
  have := dmay_anyT d.neg X n c (d.ls.map Int.ofNat) (by simpa using h3) (fun x hx => by obtain ⟨y, _, rfl⟩ := List.mem_map.1 hx; simp) d.ex w (by rw [← ints_u32s]; exact h5)
  unfold mayd at hQ
  rw [hQ] at this
  refine this.mono fun en w' hh => ⟨?_, hh.2⟩
  rw [hh.1]
  cases Q <;> rfl
set_option maxHeartbeats 8000000 in
theorem rmmay_anyT (ag0 : Bool) (aX0 : Option Addr) (an0 ac0 : Nat) (ae0 : Int) (ag1 : Bool) (aX1 : Option Addr) (an1 ac1 : Nat) (ae1 : Int) (ag2 : Bool) (aX2 : Option Addr) (an2 ac2 : Nat) (ae2 : Int) (ag3 : Bool) (aX3 : Option Addr) (an3 ac3 : Nat) (ae3 : Int) (m : Ms) (R : Bool) (hR : mayM m = R) (w : World) (ra : RdM w w.heap.size ag0 aX0 an0 ac0 ae0 ag1 aX1 an1 ac1 ae1 ag2 aX2 an2 ac2 ae2 ag3 aX3 an3 ac3 ae3 m) :
    Calls Try.prog 60 #[.agg #[.bool ag0, .slice aX0 an0 ac0, .int .i64 ae0, .bool ag1, .slice aX1 an1 ac1, .int .i64 ae1, .bool ag2, .slice aX2 an2 ac2, .int .i64 ae2, .bool ag3, .slice aX3 an3 ac3, .int .i64 ae3]] w fun en w' => en = .returned (.bool R) ∧ Below w.heap.size w w' := by
  obtain ⟨V, hV⟩ : ∃ V, V = w.alloc (.cells #[.bool ag0, .slice aX0 an0 ac0, .int .i64 ae0, .bool ag1, .slice aX1 an1 ac1, .int .i64 ae1, .bool ag2, .slice aX2 an2 ac2, .int .i64 ae2, .bool ag3, .slice aX3 an3 ac3, .int .i64 ae3] 26) := ⟨_, rfl⟩
  have hB : Below w.heap.size w V := by rw [hV]; exact (Below.refl w.heap.size w).alloc (Nat.le_refl _) _
  have kb : Blk V w.heap.size 26 #[.bool ag0, .slice aX0 an0 ac0, .int .i64 ae0, .bool ag1, .slice aX1 an1 ac1, .int .i64 ae1, .bool ag2, .slice aX2 an2 ac2, .int .i64 ae2, .bool ag3, .slice aX3 an3 ac3, .int .i64 ae3] := by rw [hV]; exact Blk.new w _ _
  unfold mayM at hR
  obtain ⟨Q0, hQ0⟩ : ∃ Q, mayd m.s = Q := ⟨_, rfl⟩
  have hc0 := fun w' (h : Below V.heap.size V w') => rdmay_anyT ag0 aX0 an0 ac0 ae0 m.s Q0 hQ0 w' (ra.1.below (hB.trans (h.mono hB.size)) (hB.trans (h.mono hB.size)).size)
  obtain ⟨Q1, hQ1⟩ : ∃ Q, mayd m.w = Q := ⟨_, rfl⟩
  have hc1 := fun w' (h : Below V.heap.size V w') => rdmay_anyT ag1 aX1 an1 ac1 ae1 m.w Q1 hQ1 w' (ra.2.1.below (hB.trans (h.mono hB.size)) (hB.trans (h.mono hB.size)).size)
  obtain ⟨Q2, hQ2⟩ : ∃ Q, mayd m.c = Q := ⟨_, rfl⟩
  have hc2 := fun w' (h : Below V.heap.size V w') => rdmay_anyT ag2 aX2 an2 ac2 ae2 m.c Q2 hQ2 w' (ra.2.2.1.below (hB.trans (h.mono hB.size)) (hB.trans (h.mono hB.size)).size)
  obtain ⟨Q3, hQ3⟩ : ∃ Q, mayd m.a = Q := ⟨_, rfl⟩
  have hc3 := fun w' (h : Below V.heap.size V w') => rdmay_anyT ag3 aX3 an3 ac3 ae3 m.a Q3 hQ3 w' (ra.2.2.2.below (hB.trans (h.mono hB.size)) (hB.trans (h.mono hB.size)).size)
  rw [hQ0, hQ1, hQ2, hQ3] at hR
  clear hQ0 hQ1 hQ2 hQ3 ra
  cases Q0 with
  | true =>
    cases Q1 with
    | true =>
      cases Q2 with
      | true =>
        cases Q3 with
        | true =>
          simp only [Bool.or_true, Bool.true_or, Bool.or_false, Bool.false_or, Bool.and_true, Bool.true_and, Bool.and_false, Bool.false_and] at hR
          subst hR
          go_enter Try.func60, Try.ntmps60
          go_wp2_with fail
          rw [← hV]
          clear hV
          refine (hc0 _ (Below.refl _ _)).mono ?_
          rintro en w1 ⟨rfl, hb1⟩
          have hB1 := hB.trans (hb1.mono hB.size)
          have kb1 := kb.below (hb1) kb.lt
          have x0_0 := kb1.cell 0
          have x0_1 := kb1.cell 1
          have x0_2 := kb1.cell 2
          have x0_3 := kb1.cell 3
          have x0_4 := kb1.cell 4
          have x0_5 := kb1.cell 5
          have x0_6 := kb1.cell 6
          have x0_7 := kb1.cell 7
          have x0_8 := kb1.cell 8
          have x0_9 := kb1.cell 9
          have x0_10 := kb1.cell 10
          have x0_11 := kb1.cell 11
          simp only [lgA, lgZ, lgS] at x0_0 x0_1 x0_2 x0_3 x0_4 x0_5 x0_6 x0_7 x0_8 x0_9 x0_10 x0_11
          go_wp2_with fail
          refine (hc1 _ (hb1)).mono ?_
          rintro en w2 ⟨rfl, hb2⟩
          have hB2 := hB1.trans (hb2.mono hB1.size)
          have kb2 := kb.below ((hb1).trans (hb2.mono (hb1).size)) kb.lt
          have x1_0 := kb2.cell 0
          have x1_1 := kb2.cell 1
          have x1_2 := kb2.cell 2
          have x1_3 := kb2.cell 3
          have x1_4 := kb2.cell 4
          have x1_5 := kb2.cell 5
          have x1_6 := kb2.cell 6
          have x1_7 := kb2.cell 7
          have x1_8 := kb2.cell 8
          have x1_9 := kb2.cell 9
          have x1_10 := kb2.cell 10
          have x1_11 := kb2.cell 11
          simp only [lgA, lgZ, lgS] at x1_0 x1_1 x1_2 x1_3 x1_4 x1_5 x1_6 x1_7 x1_8 x1_9 x1_10 x1_11
          go_wp2_with fail
          refine (hc2 _ ((hb1).trans (hb2.mono (hb1).size))).mono ?_
          rintro en w3 ⟨rfl, hb3⟩
          have hB3 := hB2.trans (hb3.mono hB2.size)
          have kb3 := kb.below (((hb1).trans (hb2.mono (hb1).size)).trans (hb3.mono ((hb1).trans (hb2.mono (hb1).size)).size)) kb.lt
          have x2_0 := kb3.cell 0
          have x2_1 := kb3.cell 1
          have x2_2 := kb3.cell 2
          have x2_3 := kb3.cell 3
          have x2_4 := kb3.cell 4
          have x2_5 := kb3.cell 5
          have x2_6 := kb3.cell 6
          have x2_7 := kb3.cell 7
          have x2_8 := kb3.cell 8
          have x2_9 := kb3.cell 9
          have x2_10 := kb3.cell 10
          have x2_11 := kb3.cell 11
          simp only [lgA, lgZ, lgS] at x2_0 x2_1 x2_2 x2_3 x2_4 x2_5 x2_6 x2_7 x2_8 x2_9 x2_10 x2_11
          go_wp2_with fail
          refine (hc3 _ (((hb1).trans (hb2.mono (hb1).size)).trans (hb3.mono ((hb1).trans (hb2.mono (hb1).size)).size))).mono ?_
          rintro en w4 ⟨rfl, hb4⟩
          have hB4 := hB3.trans (hb4.mono hB3.size)
          go_wp2
          go_ret
          exact ⟨rfl, hB4⟩
        | false =>
          simp only [Bool.or_true, Bool.true_or, Bool.or_false, Bool.false_or, Bool.and_true, Bool.true_and, Bool.and_false, Bool.false_and] at hR
          subst hR
          go_enter Try.func60, Try.ntmps60
          go_wp2_with fail
          rw [← hV]
          clear hV
          refine (hc0 _ (Below.refl _ _)).mono ?_
          rintro en w1 ⟨rfl, hb1⟩
          have hB1 := hB.trans (hb1.mono hB.size)
          have kb1 := kb.below (hb1) kb.lt
          have x0_0 := kb1.cell 0
          have x0_1 := kb1.cell 1
          have x0_2 := kb1.cell 2
          have x0_3 := kb1.cell 3
          have x0_4 := kb1.cell 4
          have x0_5 := kb1.cell 5
          have x0_6 := kb1.cell 6
          have x0_7 := kb1.cell 7
          have x0_8 := kb1.cell 8
          have x0_9 := kb1.cell 9
          have x0_10 := kb1.cell 10
          have x0_11 := kb1.cell 11
          simp only [lgA, lgZ, lgS] at x0_0 x0_1 x0_2 x0_3 x0_4 x0_5 x0_6 x0_7 x0_8 x0_9 x0_10 x0_11
          go_wp2_with fail
          refine (hc1 _ (hb1)).mono ?_
          rintro en w2 ⟨rfl, hb2⟩
          have hB2 := hB1.trans (hb2.mono hB1.size)
          have kb2 := kb.below ((hb1).trans (hb2.mono (hb1).size)) kb.lt
          have x1_0 := kb2.cell 0
          have x1_1 := kb2.cell 1
          have x1_2 := kb2.cell 2
          have x1_3 := kb2.cell 3
          have x1_4 := kb2.cell 4
          have x1_5 := kb2.cell 5
          have x1_6 := kb2.cell 6
          have x1_7 := kb2.cell 7
          have x1_8 := kb2.cell 8
          have x1_9 := kb2.cell 9
          have x1_10 := kb2.cell 10
          have x1_11 := kb2.cell 11
          simp only [lgA, lgZ, lgS] at x1_0 x1_1 x1_2 x1_3 x1_4 x1_5 x1_6 x1_7 x1_8 x1_9 x1_10 x1_11
          go_wp2_with fail
          refine (hc2 _ ((hb1).trans (hb2.mono (hb1).size))).mono ?_
          rintro en w3 ⟨rfl, hb3⟩
          have hB3 := hB2.trans (hb3.mono hB2.size)
          have kb3 := kb.below (((hb1).trans (hb2.mono (hb1).size)).trans (hb3.mono ((hb1).trans (hb2.mono (hb1).size)).size)) kb.lt
          have x2_0 := kb3.cell 0
          have x2_1 := kb3.cell 1
          have x2_2 := kb3.cell 2
          have x2_3 := kb3.cell 3
          have x2_4 := kb3.cell 4
          have x2_5 := kb3.cell 5
          have x2_6 := kb3.cell 6
          have x2_7 := kb3.cell 7
          have x2_8 := kb3.cell 8
          have x2_9 := kb3.cell 9
          have x2_10 := kb3.cell 10
          have x2_11 := kb3.cell 11
          simp only [lgA, lgZ, lgS] at x2_0 x2_1 x2_2 x2_3 x2_4 x2_5 x2_6 x2_7 x2_8 x2_9 x2_10 x2_11
          go_wp2_with fail
          refine (hc3 _ (((hb1).trans (hb2.mono (hb1).size)).trans (hb3.mono ((hb1).trans (hb2.mono (hb1).size)).size))).mono ?_
          rintro en w4 ⟨rfl, hb4⟩
          have hB4 := hB3.trans (hb4.mono hB3.size)
          go_wp2
          go_ret
          exact ⟨rfl, hB4⟩
      | false =>
        simp only [Bool.or_true, Bool.true_or, Bool.or_false, Bool.false_or, Bool.and_true, Bool.true_and, Bool.and_false, Bool.false_and] at hR
        subst hR
        go_enter Try.func60, Try.ntmps60
        go_wp2_with fail
        rw [← hV]
        clear hV
        refine (hc0 _ (Below.refl _ _)).mono ?_
        rintro en w1 ⟨rfl, hb1⟩
        have hB1 := hB.trans (hb1.mono hB.size)
        have kb1 := kb.below (hb1) kb.lt
        have x0_0 := kb1.cell 0
        have x0_1 := kb1.cell 1
        have x0_2 := kb1.cell 2
        have x0_3 := kb1.cell 3
        have x0_4 := kb1.cell 4
        have x0_5 := kb1.cell 5
        have x0_6 := kb1.cell 6
        have x0_7 := kb1.cell 7
        have x0_8 := kb1.cell 8
        have x0_9 := kb1.cell 9
        have x0_10 := kb1.cell 10
        have x0_11 := kb1.cell 11
        simp only [lgA, lgZ, lgS] at x0_0 x0_1 x0_2 x0_3 x0_4 x0_5 x0_6 x0_7 x0_8 x0_9 x0_10 x0_11
        go_wp2_with fail
        refine (hc1 _ (hb1)).mono ?_
        rintro en w2 ⟨rfl, hb2⟩
        have hB2 := hB1.trans (hb2.mono hB1.size)
        have kb2 := kb.below ((hb1).trans (hb2.mono (hb1).size)) kb.lt
        have x1_0 := kb2.cell 0
        have x1_1 := kb2.cell 1
        have x1_2 := kb2.cell 2
        have x1_3 := kb2.cell 3
        have x1_4 := kb2.cell 4
        have x1_5 := kb2.cell 5
        have x1_6 := kb2.cell 6
        have x1_7 := kb2.cell 7
        have x1_8 := kb2.cell 8
        have x1_9 := kb2.cell 9
        have x1_10 := kb2.cell 10
        have x1_11 := kb2.cell 11
        simp only [lgA, lgZ, lgS] at x1_0 x1_1 x1_2 x1_3 x1_4 x1_5 x1_6 x1_7 x1_8 x1_9 x1_10 x1_11
        go_wp2_with fail
        refine (hc2 _ ((hb1).trans (hb2.mono (hb1).size))).mono ?_
        rintro en w3 ⟨rfl, hb3⟩
        have hB3 := hB2.trans (hb3.mono hB2.size)
        go_wp2
        go_ret
        exact ⟨rfl, hB3⟩
    | false =>
      simp only [Bool.or_true, Bool.true_or, Bool.or_false, Bool.false_or, Bool.and_true, Bool.true_and, Bool.and_false, Bool.false_and] at hR
      subst hR
      go_enter Try.func60, Try.ntmps60
      go_wp2_with fail
      rw [← hV]
      clear hV
      refine (hc0 _ (Below.refl _ _)).mono ?_
      rintro en w1 ⟨rfl, hb1⟩
      have hB1 := hB.trans (hb1.mono hB.size)
      have kb1 := kb.below (hb1) kb.lt
      have x0_0 := kb1.cell 0
      have x0_1 := kb1.cell 1
      have x0_2 := kb1.cell 2
      have x0_3 := kb1.cell 3
      have x0_4 := kb1.cell 4
      have x0_5 := kb1.cell 5
      have x0_6 := kb1.cell 6
      have x0_7 := kb1.cell 7
      have x0_8 := kb1.cell 8
      have x0_9 := kb1.cell 9
      have x0_10 := kb1.cell 10
      have x0_11 := kb1.cell 11
      simp only [lgA, lgZ, lgS] at x0_0 x0_1 x0_2 x0_3 x0_4 x0_5 x0_6 x0_7 x0_8 x0_9 x0_10 x0_11
      go_wp2_with fail
      refine (hc1 _ (hb1)).mono ?_
      rintro en w2 ⟨rfl, hb2⟩
      have hB2 := hB1.trans (hb2.mono hB1.size)
      go_wp2
      go_ret
      exact ⟨rfl, hB2⟩
  | false =>
    simp only [Bool.or_true, Bool.true_or, Bool.or_false, Bool.false_or, Bool.and_true, Bool.true_and, Bool.and_false, Bool.false_and] at hR
    subst hR
    go_enter Try.func60, Try.ntmps60
    go_wp2_with fail
    rw [← hV]
    clear hV
    refine (hc0 _ (Below.refl _ _)).mono ?_
    rintro en w1 ⟨rfl, hb1⟩
    have hB1 := hB.trans (hb1.mono hB.size)
    go_wp2
    go_ret
    exact ⟨rfl, hB1⟩
theorem own_farT {w : World} {base size n : Nat} {e : TypeId} {v : Value} {xs : List Value} (h : w.ownsRow base e size v n xs) {p : Addr} (hp : v.ownBlock ≠ some p.block) (u : Value) : (w.setCell p u).ownsRow base e size v n xs := by
  refine ⟨h.1, h.2.imp id ?_⟩
  rintro ⟨g, c, cur, e1, h1, h2, r⟩
  refine ⟨g, c, cur, e1, h1, Blk.far (show Blk w g e cur from h2) ?_ u, r⟩
  intro e2
  apply hp
  rw [e1, ← e2]
  rfl
theorem u8s_appT (l k : List Int) : u8s l ++ u8s k = u8s (l ++ k) := by simp [u8s]
end Go.Proofs.Ytjmhefkmpfkpbaa
