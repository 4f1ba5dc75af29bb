/- Timer: a pile of timers: how many, which is ahead, two changed about -/
import Derived.Test.YthageikchniahaaTA
import Derived.Test.YthageikchniahaaKit7
import Derived.Test.YthageikchniahaaKit8
import Derived.BigRegion
namespace Go.Proofs.Ythageikchniahaa
open Go.ChangeShapes Go.WideShapes Go.ChangeAt Go.RowKit
set_option linter.unusedSimpArgs false
set_option linter.unusedVariables false

/-- A pile: its box R, and a row of the call's own in block g. -/
def Pl (w : World) (R g : Nat) (l : List Tm) : Prop := ∃ v, Blk w R 68 #[v] ∧ w.ownsRow 0 35 2 v l.length (T2 l) ∧ ∀ b, v.ownBlock = some b → b = g
theorem Pl.below {w w' : World} {R g : Nat} {l : List Tm} (h : Pl w R g l) (hb : Below w.heap.size w w') : Pl w' R g l := by
  obtain ⟨v, h2, h3, h4⟩ := h
  exact ⟨v, h2.below hb h2.lt, own_below h3 hb, h4⟩
theorem Pl.cell {w : World} {R g : Nat} {l : List Tm} (h : Pl w R g l) : ∃ A c, w.cell? ⟨R, 0, none⟩ = some (.slice A l.length c) ∧ l.length ≤ c ∧ R < w.heap.size ∧ Tms w w.heap.size A l.length l := by
  obtain ⟨v, h2, h3, h4⟩ := h
  obtain ⟨A, c, rfl, hc, hr⟩ := own_slice h3
  exact ⟨A, c, by rw [h2.cell]; rfl, hc, h2.lt, rfl, hr⟩
theorem Pl.row {w : World} {R g : Nat} {l : List Tm} (h : Pl w R g l) (h0 : 0 < l.length) : ∃ c cur, Blk w R 68 #[.slice (some ⟨g, 0, none⟩) l.length c] ∧ w.ownsRow 0 35 2 (.slice (some ⟨g, 0, none⟩) l.length c) l.length (T2 l) ∧ Blk w g 35 cur ∧ l.length ≤ c ∧ R ≠ g := by
  obtain ⟨v, h2, h3, h4⟩ := h
  rcases h3.2 with ⟨_, e⟩ | ⟨g', c, cur, e, _, hh, hn, _⟩
  · omega
  · have : g' = g := h4 g' (by rw [e]; rfl)
    subst this
    subst e
    exact ⟨c, cur, h2, h3, hh, hn, h2.ne_ hh (by decide)⟩
/-- All blocks but two stay. -/
def Frm (R g : Nat) (w w' : World) : Prop := Below 0 w w' ∧ ∀ b, b < w.heap.size → b ≠ R → b ≠ g → w'.heap[b]? = w.heap[b]?
section
variable {w w' w'' : World} {R g : Nat}
theorem Frm.of_below (h : Below w.heap.size w w') : Frm R g w w' := ⟨h.mono (Nat.zero_le _), fun b hb _ _ => h.block b hb⟩
theorem Frm.refl (R g : Nat) (w : World) : Frm R g w w := ⟨Below.refl _ _, fun _ _ _ _ => rfl⟩
theorem Frm.trans (h : Frm R g w w') (h2 : Frm R g w' w'') : Frm R g w w'' := ⟨h.1.trans h2.1, fun b hb h3 h4 => (h2.2 b (Nat.lt_of_lt_of_le hb h.1.size) h3 h4).trans (h.2 b hb h3 h4)⟩
theorem Frm.below (h : Frm R g w w') {B : Nat} (hB : B ≤ w.heap.size) (h1 : B ≤ R) (h2 : B ≤ g) : Below B w w' := ⟨h.1.os, h.1.tape, h.1.output, h.1.size, fun b hb => h.2 b (by omega) (by omega) (by omega)⟩
theorem Frm.blk (h : Frm R g w w') {k : Nat} {t : TypeId} {cs : Array Value} (hk : Blk w k t cs) (h1 : k ≠ R) (h2 : k ≠ g) : Blk w' k t cs := (h.2 k hk.lt h1 h2).trans hk
theorem Frm.own (h : Frm R g w w') {base size n : Nat} {e : TypeId} {v : Value} {xs : List Value} (ho : w.ownsRow base e size v n xs) (hv : ∀ k, v.ownBlock = some k → k ≠ R ∧ k ≠ g) : w'.ownsRow base e size v n xs := by
  refine ⟨ho.1, ?_⟩
  rcases ho.2 with hn | ⟨k, c, cur, rfl, hb, hh, r⟩
  · exact .inl hn
  · have := hv k rfl
    exact .inr ⟨k, c, cur, rfl, hb, h.blk hh this.1 this.2, r⟩
theorem Frm.set_ (w : World) {p : Addr} (hp : p.block = R ∨ p.block = g) (u : Value) : Frm R g w (w.setCell p u) :=
  ⟨(Below.refl 0 w).setCell (Nat.zero_le _) u, fun b _ h1 h2 => Below.heap_setCell w p u b (fun e => by omega)⟩
theorem Frm.at_ (R g k : Nat) (w : World) (u : Value) : Frm R g w (w.setCell ⟨g, k, none⟩ u) := Frm.set_ w (.inr rfl) u
end
/-- One cell of a row of the call's own is written. -/
theorem own_put {w : World} {base size n c g : Nat} {e : TypeId} {xs : List Value} (h : w.ownsRow base e size (.slice (some ⟨g, 0, none⟩) n c) n xs) (k : Nat) (u : Value) : (w.setCell ⟨g, k, none⟩ u).ownsRow base e size (.slice (some ⟨g, 0, none⟩) n c) n (xs.set k u) := by
  refine ⟨by rw [List.length_set]; exact h.1, ?_⟩
  rcases h.2 with ⟨hv, h1⟩ | ⟨g', cap, cur, hv, hb, hh, h1, h2, h3, ht⟩
  · cases hv
  · cases hv
    exact .inr ⟨g, c, _, rfl, hb, Blk.set_ hh k u, h1, h2, by simpa using h3, by rw [Array.toList_setIfInBounds, List.take_set, ht]⟩
theorem T2_set : ∀ (l : List Tm) (k : Nat) (t : Tm), T2 (l.set k t) = ((T2 l).set (k * 2) (.int .i64 t.1)).set (k * 2 + 1) (.int .i64 t.2)
  | [], k, t => by simp [T2]
  | x :: r, 0, t => rfl
  | x :: r, k + 1, t => by
    rw [List.set_cons_succ, show T2 (x :: r.set k t) = vT x ++ T2 (r.set k t) from rfl, T2_set r k t, show (k + 1) * 2 = k * 2 + 2 by omega]
    rfl
theorem Pl.swp {w : World} {R g i j : Nat} {l : List Tm} (h : Pl w R g l) (h0 : 0 < l.length) : Pl ((((w.setCell ⟨g, i * 2, none⟩ (.int .i64 (tz l j).1)).setCell ⟨g, i * 2 + 1, none⟩ (.int .i64 (tz l j).2)).setCell ⟨g, j * 2, none⟩ (.int .i64 (tz l i).1)).setCell ⟨g, j * 2 + 1, none⟩ (.int .i64 (tz l i).2)) R g (swp l i j) := by
  obtain ⟨c, cur, h1, h2, h3, h4, h5⟩ := h.row h0
  refine ⟨_, (((h1.far h5 _).far h5 _).far h5 _).far h5 _, ?_, fun b hb => by injection hb with hb; exact hb.symm⟩
  rw [swp_len]
  unfold Go.Proofs.Ythageikchniahaa.swp
  rw [T2_set, T2_set]
  exact own_put (own_put (own_put (own_put h2 _ _) _ _) _ _) _ _
theorem len_any (R : Nat) (w : World) (A : Option Addr) (n c : Nat) (h : w.cell? ⟨R, 0, none⟩ = some (.slice A n c)) : Calls Try.prog 29 #[.pointer (some ⟨R, 0, none⟩)] w fun en w' => en = .returned (.int .i64 n) ∧ w' = w := by
  go_enter Try.func29, Try.ntmps29
  go_wp2
  go_ret
  exact ⟨rfl, rfl⟩
set_option maxHeartbeats 2000000 in
theorem less_any (R g : Nat) (l : List Tm) (i j : Nat) (hi : i < l.length) (hj : j < l.length) (w : World) (h : Pl w R g l) (Q : Bool) (hQ : ahd (tz l i) (tz l j) = Q) : Calls Try.prog 64 #[.pointer (some ⟨R, 0, none⟩), .int .i64 (i : Int), .int .i64 (j : Int)] w fun en w' => en = .returned (.bool Q) ∧ Below w.heap.size w w' := by
  obtain ⟨A, c, hv, hc, hR, ht⟩ := h.cell
  obtain ⟨ad, rfl, hab, hi1⟩ := ht.at_ hi
  obtain ⟨_, e, _, hj1⟩ := ht.at_ hj
  injection e with e
  subst e
  have f0 : ∀ p : Bw w.heap.size w, p.w.cell? ⟨R, 0, none⟩ = some (.slice (some ad) l.length c) := fun p => (p.h.cell (p := ⟨R, 0, none⟩) hR).trans hv
  have f1 : ∀ p : Bw w.heap.size w, p.w.cell? (ad.add (i * 2)) = some (.int .i64 (tz l i).1) := fun p => (hi1 p.w p.h).1
  have f2 : ∀ p : Bw w.heap.size w, p.w.cell? ⟨(ad.add (i * 2)).block, (ad.add (i * 2)).off + 1, none⟩ = some (.int .i64 (tz l i).2) := fun p => (hi1 p.w p.h).2
  have f3 : ∀ p : Bw w.heap.size w, p.w.cell? (ad.add (j * 2)) = some (.int .i64 (tz l j).1) := fun p => (hj1 p.w p.h).1
  have f4 : ∀ p : Bw w.heap.size w, p.w.cell? ⟨(ad.add (j * 2)).block, (ad.add (j * 2)).off + 1, none⟩ = some (.int .i64 (tz l j).2) := fun p => (hj1 p.w p.h).2
  have hcl : ∀ p : Bw w.heap.size w, Calls Try.prog 36 #[.agg #[.int .i64 (tz l i).1, .int .i64 (tz l i).2], .agg #[.int .i64 (tz l j).1, .int .i64 (tz l j).2]] p.w fun en w' => en = .returned (.bool Q) ∧ ∃ q : Bw w.heap.size w, w' = q.w := fun p => Calls.bw (ahead_any _ _ _ _ _ Q hQ) (Nat.le_refl _)
  have i1 : (0 : Int) ≤ i := by omega
  have j1 : (0 : Int) ≤ j := by omega
  obtain ⟨n, hn⟩ : ∃ n, l.length = n := ⟨_, rfl⟩
  rw [hn] at hi hj f0
  have i2 : (i : Int) < n := by omega
  have j2 : (j : Int) < n := by omega
  generalize (tz l i).1 = xi, (tz l i).2 = yi, (tz l j).1 = xj, (tz l j).2 = yj at *
  have hB := Below.refl w.heap.size w
  clear hi1 hj1 ht h hv hn hQ hc
  go_enter Try.func64, Try.ntmps64
  go_wp2_with fail
  refine wp_region_bw w.heap.size w hB (by kernel_rfl) (by kernel_rfl) ?_
  repeat (quiet_step (exact hcl _))
  refine wpQuiet_nil ?_
  rintro _ ⟨p, rfl⟩
  go_wp2
  go_ret
  exact ⟨rfl, p.h⟩
set_option maxHeartbeats 4000000 in
theorem swap_any (R g : Nat) (l : List Tm) (i j : Nat) (hi : i < l.length) (hj : j < l.length) (w : World) (h : Pl w R g l) : Calls Try.prog 65 #[.pointer (some ⟨R, 0, none⟩), .int .i64 (i : Int), .int .i64 (j : Int)] w fun en w' => en = .returned (.tuple #[]) ∧ Pl w' R g (swp l i j) ∧ Frm R g w w' := by
  have hP := Lib.hid (h.swp (i := i) (j := j) (by omega))
  obtain ⟨c, cur, h1, h2, h3, h4, h5⟩ := h.row (by omega)
  have ht := Tms.of_own h2 rfl
  obtain ⟨ad, e, hab, hi1⟩ := ht.at_ hi
  injection e with e
  subst e
  obtain ⟨_, e, _, hj1⟩ := ht.at_ hj
  injection e with e
  subst e
  have hpi : (⟨g, 0, none⟩ : Addr).add (i * 2) = ⟨g, i * 2, none⟩ := by rw [Addr.add_lit]; simp
  have hpj : (⟨g, 0, none⟩ : Addr).add (j * 2) = ⟨g, j * 2, none⟩ := by rw [Addr.add_lit]; simp
  have f0 : w.cell? ⟨R, 0, none⟩ = some (.slice (some ⟨g, 0, none⟩) l.length c) := by rw [h1.cell]; rfl
  obtain ⟨f1, f2⟩ := hi1 w (Below.refl _ _)
  obtain ⟨f3, f4⟩ := hj1 w (Below.refl _ _)
  rw [hpi] at f1 f2
  rw [hpj] at f3 f4
  simp only at f2 f4
  have z := fun k => h3.frozen k
  have hF : ∀ a b c d, Frm R g w ((((w.setCell ⟨g, i * 2, none⟩ a).setCell ⟨g, i * 2 + 1, none⟩ b).setCell ⟨g, j * 2, none⟩ c).setCell ⟨g, j * 2 + 1, none⟩ d) := fun a b c d => (((Frm.at_ R g _ w a).trans (Frm.at_ R g _ _ b)).trans (Frm.at_ R g _ _ c)).trans (Frm.at_ R g _ _ d)
  have i1 : (0 : Int) ≤ i := by omega
  have j1 : (0 : Int) ≤ j := by omega
  obtain ⟨n, hn⟩ : ∃ n, l.length = n := ⟨_, rfl⟩
  rw [hn] at hi hj f0
  have i2 : (i : Int) < n := by omega
  have j2 : (j : Int) < n := by omega
  generalize (tz l i).1 = xi, (tz l i).2 = yi, (tz l j).1 = xj, (tz l j).2 = yj at *
  obtain ⟨v1, hv1⟩ := cell?_setCell_some (w := w) (p := ⟨g, i * 2, none⟩) (x := .int .i64 xj) (q := ⟨g, j * 2, none⟩) f3
  obtain ⟨v2, hv2⟩ := cell?_setCell_some (w := w) (p := ⟨g, i * 2, none⟩) (x := .int .i64 xj) (q := ⟨g, j * 2 + 1, none⟩) f4
  obtain ⟨v3, hv3⟩ := cell?_setCell_some (w := w.setCell ⟨g, i * 2, none⟩ (.int .i64 xj)) (p := ⟨g, i * 2 + 1, none⟩) (x := .int .i64 yj) (q := ⟨g, j * 2 + 1, none⟩) hv2
  clear hi1 hj1 ht h h1 h2 h3 h4 hn hab hv2
  go_enter Try.func65, Try.ntmps65
  go_region
  all_goals go_wp2
  all_goals go_end0
  all_goals exact ⟨rfl, (hP.out).below ((Below.refl _ _).drew), (hF _ _ _ _).trans (Frm.of_below (Below.refl _ _).drew)⟩
end Go.Proofs.Ythageikchniahaa
