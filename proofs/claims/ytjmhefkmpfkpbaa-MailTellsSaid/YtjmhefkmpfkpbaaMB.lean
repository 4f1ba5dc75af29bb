/- Mass: dyads: whether two are the same, copies of them, and great ones -/
import Derived.Test.YtjmhefkmpfkpbaaZR
namespace Go.Proofs.Ytjmhefkmpfkpbaa
open Go.ChangeShapes Go.WideShapes Go.ChangeAt Go.RowKit
set_option linter.unusedSimpArgs false
set_option linter.unusedVariables false
structure Dy where
  neg : Bool
  ls : List Nat
  ex : Int
deriving DecidableEq
set_option maxHeartbeats 4000000 in
theorem dsame_any (g g2 : Bool) (X X2 : Option Addr) (n n2 c c2 : Nat) (e e2 : Int) (a b : List Nat) (hn : a.length = n) (hn2 : b.length = n2) (hm : n ≤ 100000) (hm2 : n2 ≤ 100000) (R : Bool) (hR : decide ((⟨g, a, e⟩ : Dy) = ⟨g2, b, e2⟩) = R) (w : World) (r1 : Reads w w.heap.size 1 X n (ints .u32 a)) (r2 : Reads w w.heap.size 1 X2 n2 (ints .u32 b)) :
    Calls Try.prog 57 #[.agg #[.bool g, .slice X n c, .int .i64 e], .agg #[.bool g2, .slice X2 n2 c2, .int .i64 e2]] w fun en w' => en = .returned (.bool R) ∧ Below w.heap.size w w' := by
  have hB := ((Below.refl w.heap.size w).alloc (Nat.le_refl _) (.cells #[.bool g, .slice X n c, .int .i64 e] 24)).alloc (by simp) (.cells #[.bool g2, .slice X2 n2 c2, .int .i64 e2] 24)
  by_cases hg : g = g2
  rotate_left
  · have hf : decide ((⟨g, a, e⟩ : Dy) = ⟨g2, b, e2⟩) = false := decide_eq_false (fun h => hg (by injection h))
    obtain rfl := hf.symm.trans hR
    have t1 : (g == g2) = false := beq_eq_false_iff_ne.2 hg
    clear hf hR hg r1 r2 hn hn2
    go_enter Try.func57, Try.ntmps57
    go_wp2
    go_ret
    exact ⟨rfl, hB⟩
  by_cases he : e = e2
  rotate_left
  · have hf : decide ((⟨g, a, e⟩ : Dy) = ⟨g2, b, e2⟩) = false := decide_eq_false (fun h => he (by injection h))
    obtain rfl := hf.symm.trans hR
    have t1 : (g == g2) = true := beq_iff_eq.2 hg
    have t2 : (e == e2) = false := beq_eq_false_iff_ne.2 he
    clear hf hR he r1 r2 hn hn2 hg
    go_enter Try.func57, Try.ntmps57
    go_wp2
    go_ret
    exact ⟨rfl, hB⟩
  have hf : decide ((⟨g, a, e⟩ : Dy) = ⟨g2, b, e2⟩) = decide (a = b) := by rw [hg, he]; simp
  rw [hf] at hR
  have t1 : (g == g2) = true := beq_iff_eq.2 hg
  have t2 : (e == e2) = true := beq_iff_eq.2 he
  have hl := fun w' (h : Below w.heap.size w w') => limbs_same X X2 n n2 c c2 w'.heap.size w'.heap.size a b hn hn2 hm hm2 w' ((r1.below h).more h.size) ((r2.below h).more h.size)
  simp only [hR] at hl
  have hl2 := hl _ hB
  clear hf hR hg he hl r1 r2 hn hn2
  go_enter Try.func57, Try.ntmps57
  go_wp2_with (go_at_call 85; refine hl2.mono ?_; rintro en w' ⟨rfl, q, rfl⟩)
  go_ret
  exact ⟨rfl, below_drewN hB q⟩
def grD (n : Nat) (e : Int) : Bool := decide (42 < n) || decide (1100 < e)
set_option maxHeartbeats 4000000 in
theorem dgreat_any (g : Bool) (X : Option Addr) (n c : Nat) (e : Int) (R : Bool) (hR : grD n e = R) (w : World) :
    Calls Try.prog 52 #[.agg #[.bool g, .slice X n c, .int .i64 e]] w fun en w' => en = .returned (.bool R) ∧ Below w.heap.size w w' := by
  have hB := (Below.refl w.heap.size w).alloc (Nat.le_refl _) (.cells #[.bool g, .slice X n c, .int .i64 e] 24)
  unfold grD at hR
  by_cases h1 : 42 < n
  · obtain rfl : true = R := by rw [← hR, decide_eq_true h1]; rfl
    have d1 : decide ((42 : Int) < n) = true := decide_eq_true (by omega)
    have d2 : decide (42 < n) = true := decide_eq_true h1
    clear hR h1
    go_enter Try.func52, Try.ntmps52
    go_wp2
    go_ret
    exact ⟨rfl, hB⟩
  · have d1 : decide ((42 : Int) < n) = false := decide_eq_false (by omega)
    have d2 : decide (42 < n) = false := decide_eq_false h1
    rw [d2, Bool.false_or] at hR
    have d3 := hR
    clear hR h1
    go_enter Try.func52, Try.ntmps52
    go_wp2
    go_ret
    exact ⟨rfl, hB⟩
def TwD (w : World) (g : Bool) (n : Nat) (e : Int) (a : List Nat) (en : Ending) (w' : World) : Prop := ∃ Ao co, en = .returned (.agg #[.bool g, .slice Ao n co, .int .i64 e]) ∧ n ≤ co ∧ OwnR w' w.heap.size 52 Ao n (ints .u32 a) ∧ Below w.heap.size w w'
theorem box3 {w : World} {g : Nat} {T : TypeId} {v0 v1 v2 : Value} (h : Blk w g T #[v0, v1, v2]) (u0 u1 u2 : Value) : Blk (((w.setCell ⟨g, 0, none⟩ u0).setCell ⟨g, 1, none⟩ u1).setCell ⟨g, 2, none⟩ u2) g T #[u0, u1, u2] := by
  have := ((h.set_ 0 u0).set_ 1 u1).set_ 2 u2
  simpa using this
theorem box3_below {B : Nat} {w W : World} (h : Below B w W) {g : Nat} (hg : B ≤ g) (u0 u1 u2 : Value) : Below B w (((W.setCell ⟨g, 0, none⟩ u0).setCell ⟨g, 1, none⟩ u1).setCell ⟨g, 2, none⟩ u2) :=
  ((h.setCell (p := ⟨g, 0, none⟩) hg u0).setCell (p := ⟨g, 1, none⟩) hg u1).setCell (p := ⟨g, 2, none⟩) hg u2
set_option maxHeartbeats 4000000 in
theorem dtwin_any (g : Bool) (X : Option Addr) (n c : Nat) (e : Int) (a : List Nat) (hn : a.length = n) (hm : n ≤ 100000) (w : World) (r1 : Reads w w.heap.size 1 X n (ints .u32 a)) :
    Calls Try.prog 69 #[.agg #[.bool g, .slice X n c, .int .i64 e]] w (TwD w g n e a) := by
  have hB := ((Below.refl w.heap.size w).alloc (Nat.le_refl _) (.cells #[.bool g, .slice X n c, .int .i64 e] 24)).alloc (by simp) (.cells #[.bool false, .slice none 0 0, .int .i64 0] 24)
  have hB1 := (Below.refl w.heap.size w).alloc (Nat.le_refl _) (.cells #[.bool g, .slice X n c, .int .i64 e] 24)
  have k1 := (Blk.new w 24 #[.bool g, .slice X n c, .int .i64 e]).alloc (.cells #[.bool false, .slice none 0 0, .int .i64 0] 24)
  have k2 := Blk.new (w.alloc (.cells #[.bool g, .slice X n c, .int .i64 e] 24)) 24 #[.bool false, .slice none 0 0, .int .i64 0]
  rw [World.size_alloc] at k2
  have hc := clone_any X n c a hn hm _ ((r1.below hB).more hB.size)
  clear r1 hn
  go_enter Try.func69, Try.ntmps69
  go_wp2_with fail
  refine hc.mono ?_
  rintro en w2 ⟨Ao, co, rfl, hco, ho, hb⟩
  have q1 := k1.below hb k1.lt
  have q2 := k2.below hb k2.lt
  have hb2 := hB.trans (hb.mono hB.size)
  have ho2 := ho.base_le hB.size
  have hlt := q2.lt
  have q1' := q1.set_ 1 (.slice Ao n co)
  have q2' := q2.far (p := ⟨w.heap.size, 1, none⟩) (by simp) (.slice Ao n co)
  simp at q1'
  have q3 := box3 q2' (.bool g) (.slice Ao n co) (.int .i64 e)
  have hb3 := box3_below (hb2.setCell (p := ⟨w.heap.size, 1, none⟩) (Nat.le_refl _) (.slice Ao n co)) (Nat.le_succ _) (.bool g) (.slice Ao n co) (.int .i64 e)
  have hs2 : w.heap.size + 2 ≤ w2.heap.size := by have := hb.size; simp only [World.size_alloc] at this; omega
  have hbo : ∀ q, w.heap.size + 2 ≤ q → w.heap.size < q := fun q h => by omega
  have ho1 : OwnR w2 (w.heap.size + 2) 52 Ao n (ints .u32 a) := by have := ho; simp only [World.size_alloc] at this; exact this
  have ho3 := OwnR.far (OwnR.far (OwnR.far (OwnR.far ho1 (p := ⟨w.heap.size, 1, none⟩) (by simp) (.slice Ao n co)) (p := ⟨w.heap.size + 1, 0, none⟩) (by simp) (.bool g)) (p := ⟨w.heap.size + 1, 1, none⟩) (by simp) (.slice Ao n co)) (p := ⟨w.heap.size + 1, 2, none⟩) (by simp) (.int .i64 e)
  have ho4 := ho3.base_le (Nat.le_add_right _ 2)
  have a0 := q1.cell 0
  have a1 := q1.cell 1
  have a2 := q1.cell 2
  simp at a0 a1 a2
  have af0 := q1.frozen 0
  have af1 := q1.frozen 1
  have af2 := q1.frozen 2
  have b0 := q2.cell 0
  have b1 := q2.cell 1
  have b2 := q2.cell 2
  simp at b0 b1 b2
  have bf0 := q2.frozen 0
  have bf1 := q2.frozen 1
  have bf2 := q2.frozen 2
  have d0 := q1'.cell 0
  have d1 := q1'.cell 1
  have d2 := q1'.cell 2
  simp at d0 d1 d2
  have f0 := q2'.cell 0
  have f1 := q2'.cell 1
  have f2 := q2'.cell 2
  simp at f0 f1 f2
  have ff0 := q2'.frozen 0
  have ff1 := q2'.frozen 1
  have ff2 := q2'.frozen 2
  have h0 := q3.cell 0
  have h1 := q3.cell 1
  have h2 := q3.cell 2
  simp at h0 h1 h2
  clear hc hb k1 k2 q1 q2 q1' q2' q3 ho ho1 ho2 ho3 hB hB1 hb2 hbo
  go_wp2
  refine ⟨rfl, .agg #[.bool g, .slice Ao n co, .int .i64 e], ?_, Ao, co, rfl, hco, ho4, hb3⟩
  simp [results, Try.f69, go_sem, h0, h1, h2]
end Go.Proofs.Ytjmhefkmpfkpbaa
