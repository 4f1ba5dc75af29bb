/- Timer: a pile of timers: the last one taken; methods by their names -/
import Derived.Test.YthageikchniahaaTC
import Derived.WalkSmall
namespace Go.Proofs.Ythageikchniahaa
open Go.ChangeShapes Go.WideShapes Go.ChangeAt Go.RowKit
set_option linter.unusedSimpArgs false
set_option linter.unusedVariables false

theorem mLen (R : Nat) (w : World) : Sem.run Try.prog (method (Try.prog.types.size + 100) 55 (.agg #[.pointer (some ⟨R, 0, none⟩)]) "Len") w = .ok (29, .pointer (some ⟨R, 0, none⟩)) w := by kernel_rfl
theorem mLess (R : Nat) (w : World) : Sem.run Try.prog (method (Try.prog.types.size + 100) 55 (.agg #[.pointer (some ⟨R, 0, none⟩)]) "Less") w = .ok (64, .pointer (some ⟨R, 0, none⟩)) w := by kernel_rfl
theorem mSwap (R : Nat) (w : World) : Sem.run Try.prog (method (Try.prog.types.size + 100) 55 (.agg #[.pointer (some ⟨R, 0, none⟩)]) "Swap") w = .ok (65, .pointer (some ⟨R, 0, none⟩)) w := by kernel_rfl
theorem mPop (R : Nat) (w : World) : Sem.run Try.prog (method (Try.prog.types.size + 100) 55 (.agg #[.pointer (some ⟨R, 0, none⟩)]) "Pop") w = .ok (66, .agg #[.pointer (some ⟨R, 0, none⟩)]) w := by kernel_rfl
theorem T2_split {l : List Tm} {n : Nat} (h : l.length = n + 1) : T2 l = T2 (l.take n) ++ [.int .i64 (tz l n).1, .int .i64 (tz l n).2] := by
  have e : l = l.take n ++ [tz l n] := by
    have h1 : l.drop n = [tz l n] := by
      rw [List.drop_eq_getElem_cons (by omega), List.drop_of_length_le (by omega)]
      have := tz_lt (l := l) (k := n) (by omega)
      rw [List.getElem?_eq_getElem (by omega)] at this
      injection this with this
      rw [this]
    rw [← h1, List.take_append_drop]
  have h2 : T2 [tz l n] = [.int .i64 (tz l n).1, .int .i64 (tz l n).2] := rfl
  rw [← h2, ← T2_app, ← e]
theorem Pl.pop {w : World} {R g n c : Nat} {l : List Tm} (h1 : Blk w R 68 #[.slice (some ⟨g, 0, none⟩) (n + 1) c]) (h2 : w.ownsRow 0 35 2 (.slice (some ⟨g, 0, none⟩) (n + 1) c) (n + 1) (T2 l)) (hn : l.length = n + 1) (hRg : R ≠ g) : Pl (w.setCell ⟨R, 0, none⟩ (.slice (some ⟨g, 0, none⟩) n c)) R g (l.take n) := by
  rw [T2_split hn] at h2
  have hl : (l.take n).length = n := by rw [List.length_take]; omega
  refine ⟨_, h1.set_ 0 _, ?_, fun q hq => by injection hq with hq; exact hq.symm⟩
  rw [hl]
  exact own_far (ownsRow_pop (by rw [T2_len, hl]) h2) (fun e => by injection e with e; exact hRg e.symm) _
set_option maxHeartbeats 4000000 in
theorem mpop_any (R g n : Nat) (l : List Tm) (hn : l.length = n + 1) (w : World) (h : Pl w R g l) (x y : Int) (hx : tz l n = (x, y)) : Calls Try.prog 66 #[.agg #[.pointer (some ⟨R, 0, none⟩)]] w fun en w' => en = .returned (.iface 35 (.agg #[.int .i64 x, .int .i64 y])) ∧ Pl w' R g (l.take n) ∧ Frm R g w w' := by
  obtain ⟨c, cur, h1, h2, h3, h4, h5⟩ := h.row (by omega)
  have ht := Tms.of_own h2 rfl
  obtain ⟨ad, e, hab, hi1⟩ := ht.at_ (i := n) (by omega)
  injection e with e
  subst e
  rw [hx] at hi1
  simp only at hi1
  rw [hn] at h1 h2 h4
  have hlt := h1.lt
  have hgt := h3.lt
  obtain ⟨V, hV⟩ : ∃ V, V = (w.alloc (.cells #[.pointer (some ⟨R, 0, none⟩)] 55)).alloc (.cells #[.int .i64 x, .int .i64 y] 35) := ⟨_, rfl⟩
  have hB : Below w.heap.size w V := by rw [hV]; exact ((Below.refl w.heap.size w).alloc (Nat.le_refl _) _).alloc (by simp) _
  have kb : Blk V w.heap.size 55 #[.pointer (some ⟨R, 0, none⟩)] := by rw [hV]; exact (Blk.new w _ _).alloc _
  have kt : Blk V (w.heap.size + 1) 35 #[.int .i64 x, .int .i64 y] := by rw [hV]; have := Blk.new (w.alloc (.cells #[.pointer (some ⟨R, 0, none⟩)] 55)) 35 #[.int .i64 x, .int .i64 y]; rwa [World.size_alloc] at this
  have k1 := h1.below hB hlt
  have o2 := own_below h2 hB
  have f0 : w.cell? ⟨R, 0, none⟩ = some (.slice (some ⟨g, 0, none⟩) (n + 1) c) := by rw [h1.cell]; rfl
  obtain ⟨q1, q2⟩ := hi1 w (Below.refl _ _)
  have hV1 : Below w.heap.size w (w.alloc (.cells #[.pointer (some ⟨R, 0, none⟩)] 55)) := (Below.refl w.heap.size w).alloc (Nat.le_refl _) _
  obtain ⟨q3, q4⟩ := hi1 _ hV1
  have hp : (⟨g, 0, none⟩ : Addr).add (n * 2) = ⟨g, n * 2, none⟩ := by rw [Addr.add_lit]; simp
  rw [hp] at q1 q2 q3 q4
  simp only at q2 q4
  have f1 : (w.alloc (.cells #[.pointer (some ⟨R, 0, none⟩)] 55)).cell? ⟨R, 0, none⟩ = some (.slice (some ⟨g, 0, none⟩) (n + 1) c) := by rw [(h1.below hV1 hlt).cell]; rfl
  have f2 : V.cell? ⟨R, 0, none⟩ = some (.slice (some ⟨g, 0, none⟩) (n + 1) c) := by rw [k1.cell]; rfl
  have f3 := k1.frozen 0
  have f4 : V.cell? ⟨w.heap.size, 0, none⟩ = some (.pointer (some ⟨R, 0, none⟩)) := by rw [kb.cell]; rfl
  have f5 : V.cell? ⟨w.heap.size + 1, 0, none⟩ = some (.int .i64 x) := by rw [kt.cell]; rfl
  have f6 : V.cell? ⟨w.heap.size + 1, 1, none⟩ = some (.int .i64 y) := by rw [kt.cell]; rfl
  have hne : R ≠ w.heap.size + 1 := by omega
  have kt2 := kt.far (p := ⟨R, 0, none⟩) (fun e => hne e.symm) (.slice (some ⟨g, 0, none⟩) n c)
  have f7 : (V.setCell ⟨R, 0, none⟩ (.slice (some ⟨g, 0, none⟩) n c)).cell? ⟨w.heap.size + 1, 0, none⟩ = some (.int .i64 x) := by rw [kt2.cell]; rfl
  have f8 : (V.setCell ⟨R, 0, none⟩ (.slice (some ⟨g, 0, none⟩) n c)).cell? ⟨w.heap.size + 1, 1, none⟩ = some (.int .i64 y) := by rw [kt2.cell]; rfl
  have hP := Lib.hid (Pl.pop k1 o2 hn h5)
  have hF : Hid (Frm R g w (V.setCell ⟨R, 0, none⟩ (.slice (some ⟨g, 0, none⟩) n c))) := Lib.hid ((Frm.of_below hB).trans (Frm.set_ V (.inl rfl) _))
  have hnn : n + 1 ≤ maxLen := by rcases h2.2 with ⟨e, _⟩ | ⟨_, _, _, e, _, _, h6, h7, _⟩; · cases e
                                  · omega
  unfold maxLen at hnn
  clear hi1 ht h h1 h2 h3 hn hx hab k1 o2 kb kt kt2 hV1
  go_enter Try.func66, Try.ntmps66
  go_wp2_with fail
  rw [← hV]
  clear hV
  go_region
  all_goals go_wp2
  all_goals go_ret
  all_goals exact ⟨rfl, hP.out.below (Below.refl _ _).drew, hF.out.trans (Frm.of_below (Below.refl _ _).drew)⟩
end Go.Proofs.Ythageikchniahaa
