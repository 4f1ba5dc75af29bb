/- Flight: the reference's Land -/
import Derived.Test.YtdmjdpaehnhdoaaNB
import Derived.Test.YtdmjdpaehnhdoaaLR
import Derived.IntWalk
namespace Go.Proofs.Ytdmjdpaehnhdoaa
open Go.ChangeShapes Go.WideShapes Go.ChangeAt Go.RowKit
set_option linter.unusedSimpArgs false
set_option linter.unusedVariables false
theorem takeE_one {l : List En} {k : Nat} {x : En} (h : l[k]? = some x) : (l.drop k).take 1 = [x] := by
  rw [List.drop_eq_getElem_cons (List.getElem?_eq_some_iff.1 h).1, (List.getElem?_eq_some_iff.1 h).2]
  rfl
/-- A row of one load. -/
theorem accE_one {w : World} {base c : Nat} {A : Option Addr} {x : En} (h : AccE w base (.slice A 1 c) 1 [x]) : ∃ (g : Nat) (o : EO), A = some ⟨g, 0, none⟩ ∧ o.x = x ∧ ownE w base o ∧ (w.cell? ⟨g, 0, none⟩ = some (.int .i64 o.x.nu) ∧ w.cell? ⟨g, 1, none⟩ = some (.int .i64 o.x.ep) ∧ w.cell? ⟨g, 2, none⟩ = some (.int .i64 o.x.cp) ∧ w.cell? ⟨g, 3, none⟩ = some (.bool o.x.give.s.neg) ∧ w.cell? ⟨g, 4, none⟩ = some (.slice o.X0 o.x.give.s.ls.length o.c0) ∧ w.cell? ⟨g, 5, none⟩ = some (.int .i64 o.x.give.s.ex) ∧ w.cell? ⟨g, 6, none⟩ = some (.bool o.x.give.w.neg) ∧ w.cell? ⟨g, 7, none⟩ = some (.slice o.X1 o.x.give.w.ls.length o.c1) ∧ w.cell? ⟨g, 8, none⟩ = some (.int .i64 o.x.give.w.ex) ∧ w.cell? ⟨g, 9, none⟩ = some (.bool o.x.give.c.neg) ∧ w.cell? ⟨g, 10, none⟩ = some (.slice o.X2 o.x.give.c.ls.length o.c2) ∧ w.cell? ⟨g, 11, none⟩ = some (.int .i64 o.x.give.c.ex) ∧ w.cell? ⟨g, 12, none⟩ = some (.bool o.x.give.a.neg) ∧ w.cell? ⟨g, 13, none⟩ = some (.slice o.X3 o.x.give.a.ls.length o.c3) ∧ w.cell? ⟨g, 14, none⟩ = some (.int .i64 o.x.give.a.ex)) := by
  obtain ⟨os, e1, ho, ht⟩ := h
  cases os with
  | nil => cases e1
  | cons o os =>
    have hos : os = [] := by simpa using congrArg List.length e1
    subst hos
    rcases ho.2 with ⟨_, h⟩ | ⟨g, cap, cur, hv, h2, h3, h4, h5, h6, h7⟩
    · omega
    · injection hv with hA _ _
      have hc : ∀ (j : Nat) (v : Value), (row15 o)[j]? = some v → j < 15 → w.cell? ⟨g, j, none⟩ = some v := by
        intro j v hv hj
        have h8 := flat15_at [o] 0 j o v rfl hv hj
        rw [← h7, List.getElem?_take] at h8
        rw [(show Blk w g 40 cur from h3).cell]
        split at h8
        · simpa using h8
        · cases h8
      have hx : o.x = x := by simpa using e1
      have hw := ht o (by simp)
      have c0 := hc 0 _ rfl (by omega)
      have c1 := hc 1 _ rfl (by omega)
      have c2 := hc 2 _ rfl (by omega)
      have c3 := hc 3 _ rfl (by omega)
      have c4 := hc 4 _ rfl (by omega)
      have c5 := hc 5 _ rfl (by omega)
      have c6 := hc 6 _ rfl (by omega)
      have c7 := hc 7 _ rfl (by omega)
      have c8 := hc 8 _ rfl (by omega)
      have c9 := hc 9 _ rfl (by omega)
      have c10 := hc 10 _ rfl (by omega)
      have c11 := hc 11 _ rfl (by omega)
      have c12 := hc 12 _ rfl (by omega)
      have c13 := hc 13 _ rfl (by omega)
      have c14 := hc 14 _ rfl (by omega)
      exact ⟨g, o, hA, hx, hw, c0, c1, c2, c3, c4, c5, c6, c7, c8, c9, c10, c11, c12, c13, c14⟩
/-- A list without a load, and that load, each in memory of its own. -/
theorem pair_of {w8 w9 : World} {B n c : Nat} {A : Option Addr} {l : List En} {ox : EO} (h : AccE w8 B (.slice A n c) n l) (h8 : Below w8.heap.size w8 w9) (hB : B ≤ w8.heap.size) (hx : ownE w9 w8.heap.size ox) : PairC B (.slice A n c) l ox.x ox w9 := by
  obtain ⟨os, h1, h2, h3⟩ := h
  refine ⟨A, n, c, os, rfl, h1, rfl, own_below h2 h8, fun o hO => (h3 o hO).map (fun h => h.below h8), hx.map (fun h => h.base_le hB), fun o hO g p q => ?_⟩
  obtain ⟨_, cur, hb⟩ := (h3 o hO).has p
  have := hb.lt
  have := (hx.has q).1
  omega
set_option maxRecDepth 100000 in
set_option maxHeartbeats 16000000 in
theorem rland_any_err (A : Option Addr) (n c : Nat) (l : List En) (hm : n ≤ 10000) (hnc : n ≤ c) (hs1 : ∀ x ∈ l, smM x.give) (w : World) (h : Ens w w.heap.size A n l) (N : Int) (hX : ¬ (ChkF l 0 ∧ (0 ≤ N ∧ N ≤ 1048575))) : Calls Try.prog 15 #[.slice A n c, .int .i64 N] w fun en w' => ∃ l' x ox v vx E, en = .returned (.tuple #[v, vx, .int .i64 E]) ∧ CmeF true l N l' x E ∧ vx = aggE ox ∧ PairE w v l' x ox w' := by
  obtain ⟨V, hV⟩ : ∃ V, V = w.alloc (.cells #[.int .i64 0, .int .i64 0, .int .i64 0, .bool false, .slice none 0 0, .int .i64 0, .bool false, .slice none 0 0, .int .i64 0, .bool false, .slice none 0 0, .int .i64 0, .bool false, .slice none 0 0, .int .i64 0] 40) := ⟨_, rfl⟩
  have hBV : Below w.heap.size w V := by rw [hV]; exact (Below.refl _ _).alloc (Nat.le_refl _) _
  have hVs : w.heap.size < V.heap.size := by rw [hV, World.size_alloc]; exact Nat.lt_succ_self _
  have kb : Blk V w.heap.size 40 #[.int .i64 0, .int .i64 0, .int .i64 0, .bool false, .slice none 0 0, .int .i64 0, .bool false, .slice none 0 0, .int .i64 0, .bool false, .slice none 0 0, .int .i64 0, .bool false, .slice none 0 0, .int .i64 0] := by rw [hV]; exact Blk.new w _ _
  have hf := rasked_any A n c l (by unfold maxLen; omega) V (Recs.more (Recs.below h hBV) hBV.size) N
  have gln := Lib.hid (ens_len h)
  have gh := Lib.hid h
  have gs := Lib.hid hs1
  have gX := Lib.hid hX
  clear h hs1 hX
  go_enter Try.func15, Try.ntmps15
  go_wp2_with fail
  rw [← hV]
  clear hV
  refine hf.mono ?_
  rintro en w1 ⟨E, rfl, hF, hb1'⟩
  clear hf
  have hb1 : Below w.heap.size w w1 := hBV.trans (hb1'.mono hBV.size)
  have kb1 := kb.below hb1' kb.lt
  have s1 : V.heap.size ≤ w1.heap.size := hb1'.size
  have kl1 := kb1.lt
  rcases hF with ⟨hE, hne⟩ | ⟨hE, hne, rfl⟩ | ⟨hE, hne, rfl⟩
  · rcases hE.has with ⟨rfl, _⟩ | ⟨rfl, _, _⟩ | ⟨rfl, _, _⟩
    · have gd : Hid (CmeF true l N [] zE 4) := Lib.hid (.inl ⟨hE, hne, rfl, rfl⟩)
      clear hE hne
      have SB : ∀ w', Blk w' w.heap.size 40 #[.int .i64 0, .int .i64 0, .int .i64 0, .bool false, .slice none 0 0, .int .i64 0, .bool false, .slice none 0 0, .int .i64 0, .bool false, .slice none 0 0, .int .i64 0, .bool false, .slice none 0 0, .int .i64 0] → w'.cell? ⟨w.heap.size, 0, none⟩ = some (.int .i64 0) ∧ w'.cell? ⟨w.heap.size, 1, none⟩ = some (.int .i64 0) ∧ w'.cell? ⟨w.heap.size, 2, none⟩ = some (.int .i64 0) ∧ w'.cell? ⟨w.heap.size, 3, none⟩ = some (.bool false) ∧ w'.cell? ⟨w.heap.size, 4, none⟩ = some (.slice none 0 0) ∧ w'.cell? ⟨w.heap.size, 5, none⟩ = some (.int .i64 0) ∧ w'.cell? ⟨w.heap.size, 6, none⟩ = some (.bool false) ∧ w'.cell? ⟨w.heap.size, 7, none⟩ = some (.slice none 0 0) ∧ w'.cell? ⟨w.heap.size, 8, none⟩ = some (.int .i64 0) ∧ w'.cell? ⟨w.heap.size, 9, none⟩ = some (.bool false) ∧ w'.cell? ⟨w.heap.size, 10, none⟩ = some (.slice none 0 0) ∧ w'.cell? ⟨w.heap.size, 11, none⟩ = some (.int .i64 0) ∧ w'.cell? ⟨w.heap.size, 12, none⟩ = some (.bool false) ∧ w'.cell? ⟨w.heap.size, 13, none⟩ = some (.slice none 0 0) ∧ w'.cell? ⟨w.heap.size, 14, none⟩ = some (.int .i64 0) ∧ w'.frozen? ⟨w.heap.size, 0, none⟩ = false ∧ w'.frozen? ⟨w.heap.size, 1, none⟩ = false ∧ w'.frozen? ⟨w.heap.size, 2, none⟩ = false ∧ w'.frozen? ⟨w.heap.size, 3, none⟩ = false ∧ w'.frozen? ⟨w.heap.size, 4, none⟩ = false ∧ w'.frozen? ⟨w.heap.size, 5, none⟩ = false ∧ w'.frozen? ⟨w.heap.size, 6, none⟩ = false ∧ w'.frozen? ⟨w.heap.size, 7, none⟩ = false ∧ w'.frozen? ⟨w.heap.size, 8, none⟩ = false ∧ w'.frozen? ⟨w.heap.size, 9, none⟩ = false ∧ w'.frozen? ⟨w.heap.size, 10, none⟩ = false ∧ w'.frozen? ⟨w.heap.size, 11, none⟩ = false ∧ w'.frozen? ⟨w.heap.size, 12, none⟩ = false ∧ w'.frozen? ⟨w.heap.size, 13, none⟩ = false ∧ w'.frozen? ⟨w.heap.size, 14, none⟩ = false := by
        intro w' k5
        refine ⟨?_, ?_, ?_, ?_, ?_, ?_, ?_, ?_, ?_, ?_, ?_, ?_, ?_, ?_, ?_, ?_, ?_, ?_, ?_, ?_, ?_, ?_, ?_, ?_, ?_, ?_, ?_, ?_, ?_, ?_⟩ <;> first | exact k5.frozen _ | (rw [k5.cell]; rfl)
      have SS : ∀ w', Below w1.heap.size w1 w' → w'.cell? ⟨w.heap.size, 0, none⟩ = some (.int .i64 0) ∧ w'.cell? ⟨w.heap.size, 1, none⟩ = some (.int .i64 0) ∧ w'.cell? ⟨w.heap.size, 2, none⟩ = some (.int .i64 0) ∧ w'.cell? ⟨w.heap.size, 3, none⟩ = some (.bool false) ∧ w'.cell? ⟨w.heap.size, 4, none⟩ = some (.slice none 0 0) ∧ w'.cell? ⟨w.heap.size, 5, none⟩ = some (.int .i64 0) ∧ w'.cell? ⟨w.heap.size, 6, none⟩ = some (.bool false) ∧ w'.cell? ⟨w.heap.size, 7, none⟩ = some (.slice none 0 0) ∧ w'.cell? ⟨w.heap.size, 8, none⟩ = some (.int .i64 0) ∧ w'.cell? ⟨w.heap.size, 9, none⟩ = some (.bool false) ∧ w'.cell? ⟨w.heap.size, 10, none⟩ = some (.slice none 0 0) ∧ w'.cell? ⟨w.heap.size, 11, none⟩ = some (.int .i64 0) ∧ w'.cell? ⟨w.heap.size, 12, none⟩ = some (.bool false) ∧ w'.cell? ⟨w.heap.size, 13, none⟩ = some (.slice none 0 0) ∧ w'.cell? ⟨w.heap.size, 14, none⟩ = some (.int .i64 0) ∧ w'.frozen? ⟨w.heap.size, 0, none⟩ = false ∧ w'.frozen? ⟨w.heap.size, 1, none⟩ = false ∧ w'.frozen? ⟨w.heap.size, 2, none⟩ = false ∧ w'.frozen? ⟨w.heap.size, 3, none⟩ = false ∧ w'.frozen? ⟨w.heap.size, 4, none⟩ = false ∧ w'.frozen? ⟨w.heap.size, 5, none⟩ = false ∧ w'.frozen? ⟨w.heap.size, 6, none⟩ = false ∧ w'.frozen? ⟨w.heap.size, 7, none⟩ = false ∧ w'.frozen? ⟨w.heap.size, 8, none⟩ = false ∧ w'.frozen? ⟨w.heap.size, 9, none⟩ = false ∧ w'.frozen? ⟨w.heap.size, 10, none⟩ = false ∧ w'.frozen? ⟨w.heap.size, 11, none⟩ = false ∧ w'.frozen? ⟨w.heap.size, 12, none⟩ = false ∧ w'.frozen? ⟨w.heap.size, 13, none⟩ = false ∧ w'.frozen? ⟨w.heap.size, 14, none⟩ = false := fun w' hw => SB w' (kb1.below hw kb1.lt)
      obtain ⟨u0, u1, u2, u3, u4, u5, u6, u7, u8, u9, u10, u11, u12, u13, u14, uf0, uf1, uf2, uf3, uf4, uf5, uf6, uf7, uf8, uf9, uf10, uf11, uf12, uf13, uf14⟩ := SS w1 (Below.refl _ _)
      obtain ⟨W9, hW9⟩ : ∃ W9, W9 = (b15 w1 w.heap.size (.int .i64 0) (.int .i64 0) (.int .i64 0) (.bool false) (.slice none 0 0) (.int .i64 0) (.bool false) (.slice none 0 0) (.int .i64 0) (.bool false) (.slice none 0 0) (.int .i64 0) (.bool false) (.slice none 0 0) (.int .i64 0)) := ⟨_, rfl⟩
      have k9 : Blk W9 w.heap.size 40 #[.int .i64 0, .int .i64 0, .int .i64 0, .bool false, .slice none 0 0, .int .i64 0, .bool false, .slice none 0 0, .int .i64 0, .bool false, .slice none 0 0, .int .i64 0, .bool false, .slice none 0 0, .int .i64 0] := by rw [hW9]; exact (b15_blk kb1 rfl (.int .i64 0) (.int .i64 0) (.int .i64 0) (.bool false) (.slice none 0 0) (.int .i64 0) (.bool false) (.slice none 0 0) (.int .i64 0) (.bool false) (.slice none 0 0) (.int .i64 0) (.bool false) (.slice none 0 0) (.int .i64 0))
      have g9 : Hid (PairE w (.slice none 0 0) ([]) (zE) (zO) W9) := Lib.hid (by rw [hW9]; exact ⟨((pairC_nil w1 V.heap.size).other (by omega) (b15_other w1 _ (.int .i64 0) (.int .i64 0) (.int .i64 0) (.bool false) (.slice none 0 0) (.int .i64 0) (.bool false) (.slice none 0 0) (.int .i64 0) (.bool false) (.slice none 0 0) (.int .i64 0) (.bool false) (.slice none 0 0) (.int .i64 0))).base_le (by omega), b15_below hb1 (Nat.le_refl _) (.int .i64 0) (.int .i64 0) (.int .i64 0) (.bool false) (.slice none 0 0) (.int .i64 0) (.bool false) (.slice none 0 0) (.int .i64 0) (.bool false) (.slice none 0 0) (.int .i64 0) (.bool false) (.slice none 0 0) (.int .i64 0)⟩)
      unfold b15 at hW9
      go_wp2
      clear u0 u1 u2 u3 u4 u5 u6 u7 u8 u9 u10 u11 u12 u13 u14 uf0 uf1 uf2 uf3 uf4 uf5 uf6 uf7 uf8 uf9 uf10 uf11 uf12 uf13 uf14
      clear SS SB
      rw [← hW9]
      clear hW9
      have pu0 : W9.cell? ⟨w.heap.size, 0, none⟩ = some (.int .i64 0) := by rw [k9.cell]; rfl
      have pu1 : W9.cell? ⟨w.heap.size, 1, none⟩ = some (.int .i64 0) := by rw [k9.cell]; rfl
      have pu2 : W9.cell? ⟨w.heap.size, 2, none⟩ = some (.int .i64 0) := by rw [k9.cell]; rfl
      have pu3 : W9.cell? ⟨w.heap.size, 3, none⟩ = some (.bool false) := by rw [k9.cell]; rfl
      have pu4 : W9.cell? ⟨w.heap.size, 4, none⟩ = some (.slice none 0 0) := by rw [k9.cell]; rfl
      have pu5 : W9.cell? ⟨w.heap.size, 5, none⟩ = some (.int .i64 0) := by rw [k9.cell]; rfl
      have pu6 : W9.cell? ⟨w.heap.size, 6, none⟩ = some (.bool false) := by rw [k9.cell]; rfl
      have pu7 : W9.cell? ⟨w.heap.size, 7, none⟩ = some (.slice none 0 0) := by rw [k9.cell]; rfl
      have pu8 : W9.cell? ⟨w.heap.size, 8, none⟩ = some (.int .i64 0) := by rw [k9.cell]; rfl
      have pu9 : W9.cell? ⟨w.heap.size, 9, none⟩ = some (.bool false) := by rw [k9.cell]; rfl
      have pu10 : W9.cell? ⟨w.heap.size, 10, none⟩ = some (.slice none 0 0) := by rw [k9.cell]; rfl
      have pu11 : W9.cell? ⟨w.heap.size, 11, none⟩ = some (.int .i64 0) := by rw [k9.cell]; rfl
      have pu12 : W9.cell? ⟨w.heap.size, 12, none⟩ = some (.bool false) := by rw [k9.cell]; rfl
      have pu13 : W9.cell? ⟨w.heap.size, 13, none⟩ = some (.slice none 0 0) := by rw [k9.cell]; rfl
      have pu14 : W9.cell? ⟨w.heap.size, 14, none⟩ = some (.int .i64 0) := by rw [k9.cell]; rfl
      clear k9
      refine ⟨rfl, .tuple #[.slice none 0 0, .agg #[.int .i64 0, .int .i64 0, .int .i64 0, .bool false, .slice none 0 0, .int .i64 0, .bool false, .slice none 0 0, .int .i64 0, .bool false, .slice none 0 0, .int .i64 0, .bool false, .slice none 0 0, .int .i64 0], .int .i64 4], ?_, [], zE, zO, _, _, _, rfl, gd.out, rfl, g9.out⟩
      simp [results, Try.f15, go_sem, pu0, pu1, pu2, pu3, pu4, pu5, pu6, pu7, pu8, pu9, pu10, pu11, pu12, pu13, pu14]
    · exact absurd rfl hne
    · have gd : Hid (CmeF true l N [] zE 8) := Lib.hid (.inl ⟨hE, hne, rfl, rfl⟩)
      clear hE hne
      have SB : ∀ w', Blk w' w.heap.size 40 #[.int .i64 0, .int .i64 0, .int .i64 0, .bool false, .slice none 0 0, .int .i64 0, .bool false, .slice none 0 0, .int .i64 0, .bool false, .slice none 0 0, .int .i64 0, .bool false, .slice none 0 0, .int .i64 0] → w'.cell? ⟨w.heap.size, 0, none⟩ = some (.int .i64 0) ∧ w'.cell? ⟨w.heap.size, 1, none⟩ = some (.int .i64 0) ∧ w'.cell? ⟨w.heap.size, 2, none⟩ = some (.int .i64 0) ∧ w'.cell? ⟨w.heap.size, 3, none⟩ = some (.bool false) ∧ w'.cell? ⟨w.heap.size, 4, none⟩ = some (.slice none 0 0) ∧ w'.cell? ⟨w.heap.size, 5, none⟩ = some (.int .i64 0) ∧ w'.cell? ⟨w.heap.size, 6, none⟩ = some (.bool false) ∧ w'.cell? ⟨w.heap.size, 7, none⟩ = some (.slice none 0 0) ∧ w'.cell? ⟨w.heap.size, 8, none⟩ = some (.int .i64 0) ∧ w'.cell? ⟨w.heap.size, 9, none⟩ = some (.bool false) ∧ w'.cell? ⟨w.heap.size, 10, none⟩ = some (.slice none 0 0) ∧ w'.cell? ⟨w.heap.size, 11, none⟩ = some (.int .i64 0) ∧ w'.cell? ⟨w.heap.size, 12, none⟩ = some (.bool false) ∧ w'.cell? ⟨w.heap.size, 13, none⟩ = some (.slice none 0 0) ∧ w'.cell? ⟨w.heap.size, 14, none⟩ = some (.int .i64 0) ∧ w'.frozen? ⟨w.heap.size, 0, none⟩ = false ∧ w'.frozen? ⟨w.heap.size, 1, none⟩ = false ∧ w'.frozen? ⟨w.heap.size, 2, none⟩ = false ∧ w'.frozen? ⟨w.heap.size, 3, none⟩ = false ∧ w'.frozen? ⟨w.heap.size, 4, none⟩ = false ∧ w'.frozen? ⟨w.heap.size, 5, none⟩ = false ∧ w'.frozen? ⟨w.heap.size, 6, none⟩ = false ∧ w'.frozen? ⟨w.heap.size, 7, none⟩ = false ∧ w'.frozen? ⟨w.heap.size, 8, none⟩ = false ∧ w'.frozen? ⟨w.heap.size, 9, none⟩ = false ∧ w'.frozen? ⟨w.heap.size, 10, none⟩ = false ∧ w'.frozen? ⟨w.heap.size, 11, none⟩ = false ∧ w'.frozen? ⟨w.heap.size, 12, none⟩ = false ∧ w'.frozen? ⟨w.heap.size, 13, none⟩ = false ∧ w'.frozen? ⟨w.heap.size, 14, none⟩ = false := by
        intro w' k5
        refine ⟨?_, ?_, ?_, ?_, ?_, ?_, ?_, ?_, ?_, ?_, ?_, ?_, ?_, ?_, ?_, ?_, ?_, ?_, ?_, ?_, ?_, ?_, ?_, ?_, ?_, ?_, ?_, ?_, ?_, ?_⟩ <;> first | exact k5.frozen _ | (rw [k5.cell]; rfl)
      have SS : ∀ w', Below w1.heap.size w1 w' → w'.cell? ⟨w.heap.size, 0, none⟩ = some (.int .i64 0) ∧ w'.cell? ⟨w.heap.size, 1, none⟩ = some (.int .i64 0) ∧ w'.cell? ⟨w.heap.size, 2, none⟩ = some (.int .i64 0) ∧ w'.cell? ⟨w.heap.size, 3, none⟩ = some (.bool false) ∧ w'.cell? ⟨w.heap.size, 4, none⟩ = some (.slice none 0 0) ∧ w'.cell? ⟨w.heap.size, 5, none⟩ = some (.int .i64 0) ∧ w'.cell? ⟨w.heap.size, 6, none⟩ = some (.bool false) ∧ w'.cell? ⟨w.heap.size, 7, none⟩ = some (.slice none 0 0) ∧ w'.cell? ⟨w.heap.size, 8, none⟩ = some (.int .i64 0) ∧ w'.cell? ⟨w.heap.size, 9, none⟩ = some (.bool false) ∧ w'.cell? ⟨w.heap.size, 10, none⟩ = some (.slice none 0 0) ∧ w'.cell? ⟨w.heap.size, 11, none⟩ = some (.int .i64 0) ∧ w'.cell? ⟨w.heap.size, 12, none⟩ = some (.bool false) ∧ w'.cell? ⟨w.heap.size, 13, none⟩ = some (.slice none 0 0) ∧ w'.cell? ⟨w.heap.size, 14, none⟩ = some (.int .i64 0) ∧ w'.frozen? ⟨w.heap.size, 0, none⟩ = false ∧ w'.frozen? ⟨w.heap.size, 1, none⟩ = false ∧ w'.frozen? ⟨w.heap.size, 2, none⟩ = false ∧ w'.frozen? ⟨w.heap.size, 3, none⟩ = false ∧ w'.frozen? ⟨w.heap.size, 4, none⟩ = false ∧ w'.frozen? ⟨w.heap.size, 5, none⟩ = false ∧ w'.frozen? ⟨w.heap.size, 6, none⟩ = false ∧ w'.frozen? ⟨w.heap.size, 7, none⟩ = false ∧ w'.frozen? ⟨w.heap.size, 8, none⟩ = false ∧ w'.frozen? ⟨w.heap.size, 9, none⟩ = false ∧ w'.frozen? ⟨w.heap.size, 10, none⟩ = false ∧ w'.frozen? ⟨w.heap.size, 11, none⟩ = false ∧ w'.frozen? ⟨w.heap.size, 12, none⟩ = false ∧ w'.frozen? ⟨w.heap.size, 13, none⟩ = false ∧ w'.frozen? ⟨w.heap.size, 14, none⟩ = false := fun w' hw => SB w' (kb1.below hw kb1.lt)
      obtain ⟨u0, u1, u2, u3, u4, u5, u6, u7, u8, u9, u10, u11, u12, u13, u14, uf0, uf1, uf2, uf3, uf4, uf5, uf6, uf7, uf8, uf9, uf10, uf11, uf12, uf13, uf14⟩ := SS w1 (Below.refl _ _)
      obtain ⟨W9, hW9⟩ : ∃ W9, W9 = (b15 w1 w.heap.size (.int .i64 0) (.int .i64 0) (.int .i64 0) (.bool false) (.slice none 0 0) (.int .i64 0) (.bool false) (.slice none 0 0) (.int .i64 0) (.bool false) (.slice none 0 0) (.int .i64 0) (.bool false) (.slice none 0 0) (.int .i64 0)) := ⟨_, rfl⟩
      have k9 : Blk W9 w.heap.size 40 #[.int .i64 0, .int .i64 0, .int .i64 0, .bool false, .slice none 0 0, .int .i64 0, .bool false, .slice none 0 0, .int .i64 0, .bool false, .slice none 0 0, .int .i64 0, .bool false, .slice none 0 0, .int .i64 0] := by rw [hW9]; exact (b15_blk kb1 rfl (.int .i64 0) (.int .i64 0) (.int .i64 0) (.bool false) (.slice none 0 0) (.int .i64 0) (.bool false) (.slice none 0 0) (.int .i64 0) (.bool false) (.slice none 0 0) (.int .i64 0) (.bool false) (.slice none 0 0) (.int .i64 0))
      have g9 : Hid (PairE w (.slice none 0 0) ([]) (zE) (zO) W9) := Lib.hid (by rw [hW9]; exact ⟨((pairC_nil w1 V.heap.size).other (by omega) (b15_other w1 _ (.int .i64 0) (.int .i64 0) (.int .i64 0) (.bool false) (.slice none 0 0) (.int .i64 0) (.bool false) (.slice none 0 0) (.int .i64 0) (.bool false) (.slice none 0 0) (.int .i64 0) (.bool false) (.slice none 0 0) (.int .i64 0))).base_le (by omega), b15_below hb1 (Nat.le_refl _) (.int .i64 0) (.int .i64 0) (.int .i64 0) (.bool false) (.slice none 0 0) (.int .i64 0) (.bool false) (.slice none 0 0) (.int .i64 0) (.bool false) (.slice none 0 0) (.int .i64 0) (.bool false) (.slice none 0 0) (.int .i64 0)⟩)
      unfold b15 at hW9
      go_wp2
      clear u0 u1 u2 u3 u4 u5 u6 u7 u8 u9 u10 u11 u12 u13 u14 uf0 uf1 uf2 uf3 uf4 uf5 uf6 uf7 uf8 uf9 uf10 uf11 uf12 uf13 uf14
      clear SS SB
      rw [← hW9]
      clear hW9
      have pu0 : W9.cell? ⟨w.heap.size, 0, none⟩ = some (.int .i64 0) := by rw [k9.cell]; rfl
      have pu1 : W9.cell? ⟨w.heap.size, 1, none⟩ = some (.int .i64 0) := by rw [k9.cell]; rfl
      have pu2 : W9.cell? ⟨w.heap.size, 2, none⟩ = some (.int .i64 0) := by rw [k9.cell]; rfl
      have pu3 : W9.cell? ⟨w.heap.size, 3, none⟩ = some (.bool false) := by rw [k9.cell]; rfl
      have pu4 : W9.cell? ⟨w.heap.size, 4, none⟩ = some (.slice none 0 0) := by rw [k9.cell]; rfl
      have pu5 : W9.cell? ⟨w.heap.size, 5, none⟩ = some (.int .i64 0) := by rw [k9.cell]; rfl
      have pu6 : W9.cell? ⟨w.heap.size, 6, none⟩ = some (.bool false) := by rw [k9.cell]; rfl
      have pu7 : W9.cell? ⟨w.heap.size, 7, none⟩ = some (.slice none 0 0) := by rw [k9.cell]; rfl
      have pu8 : W9.cell? ⟨w.heap.size, 8, none⟩ = some (.int .i64 0) := by rw [k9.cell]; rfl
      have pu9 : W9.cell? ⟨w.heap.size, 9, none⟩ = some (.bool false) := by rw [k9.cell]; rfl
      have pu10 : W9.cell? ⟨w.heap.size, 10, none⟩ = some (.slice none 0 0) := by rw [k9.cell]; rfl
      have pu11 : W9.cell? ⟨w.heap.size, 11, none⟩ = some (.int .i64 0) := by rw [k9.cell]; rfl
      have pu12 : W9.cell? ⟨w.heap.size, 12, none⟩ = some (.bool false) := by rw [k9.cell]; rfl
      have pu13 : W9.cell? ⟨w.heap.size, 13, none⟩ = some (.slice none 0 0) := by rw [k9.cell]; rfl
      have pu14 : W9.cell? ⟨w.heap.size, 14, none⟩ = some (.int .i64 0) := by rw [k9.cell]; rfl
      clear k9
      refine ⟨rfl, .tuple #[.slice none 0 0, .agg #[.int .i64 0, .int .i64 0, .int .i64 0, .bool false, .slice none 0 0, .int .i64 0, .bool false, .slice none 0 0, .int .i64 0, .bool false, .slice none 0 0, .int .i64 0, .bool false, .slice none 0 0, .int .i64 0], .int .i64 8], ?_, [], zE, zO, _, _, _, rfl, gd.out, rfl, g9.out⟩
      simp [results, Try.f15, go_sem, pu0, pu1, pu2, pu3, pu4, pu5, pu6, pu7, pu8, pu9, pu10, pu11, pu12, pu13, pu14]
  · have gd : Hid (CmeF true l N [] zE 2) := Lib.hid (.inr (.inl ⟨hE, hne, rfl, rfl, rfl⟩))
    clear hE hne
    have SB : ∀ w', Blk w' w.heap.size 40 #[.int .i64 0, .int .i64 0, .int .i64 0, .bool false, .slice none 0 0, .int .i64 0, .bool false, .slice none 0 0, .int .i64 0, .bool false, .slice none 0 0, .int .i64 0, .bool false, .slice none 0 0, .int .i64 0] → w'.cell? ⟨w.heap.size, 0, none⟩ = some (.int .i64 0) ∧ w'.cell? ⟨w.heap.size, 1, none⟩ = some (.int .i64 0) ∧ w'.cell? ⟨w.heap.size, 2, none⟩ = some (.int .i64 0) ∧ w'.cell? ⟨w.heap.size, 3, none⟩ = some (.bool false) ∧ w'.cell? ⟨w.heap.size, 4, none⟩ = some (.slice none 0 0) ∧ w'.cell? ⟨w.heap.size, 5, none⟩ = some (.int .i64 0) ∧ w'.cell? ⟨w.heap.size, 6, none⟩ = some (.bool false) ∧ w'.cell? ⟨w.heap.size, 7, none⟩ = some (.slice none 0 0) ∧ w'.cell? ⟨w.heap.size, 8, none⟩ = some (.int .i64 0) ∧ w'.cell? ⟨w.heap.size, 9, none⟩ = some (.bool false) ∧ w'.cell? ⟨w.heap.size, 10, none⟩ = some (.slice none 0 0) ∧ w'.cell? ⟨w.heap.size, 11, none⟩ = some (.int .i64 0) ∧ w'.cell? ⟨w.heap.size, 12, none⟩ = some (.bool false) ∧ w'.cell? ⟨w.heap.size, 13, none⟩ = some (.slice none 0 0) ∧ w'.cell? ⟨w.heap.size, 14, none⟩ = some (.int .i64 0) ∧ w'.frozen? ⟨w.heap.size, 0, none⟩ = false ∧ w'.frozen? ⟨w.heap.size, 1, none⟩ = false ∧ w'.frozen? ⟨w.heap.size, 2, none⟩ = false ∧ w'.frozen? ⟨w.heap.size, 3, none⟩ = false ∧ w'.frozen? ⟨w.heap.size, 4, none⟩ = false ∧ w'.frozen? ⟨w.heap.size, 5, none⟩ = false ∧ w'.frozen? ⟨w.heap.size, 6, none⟩ = false ∧ w'.frozen? ⟨w.heap.size, 7, none⟩ = false ∧ w'.frozen? ⟨w.heap.size, 8, none⟩ = false ∧ w'.frozen? ⟨w.heap.size, 9, none⟩ = false ∧ w'.frozen? ⟨w.heap.size, 10, none⟩ = false ∧ w'.frozen? ⟨w.heap.size, 11, none⟩ = false ∧ w'.frozen? ⟨w.heap.size, 12, none⟩ = false ∧ w'.frozen? ⟨w.heap.size, 13, none⟩ = false ∧ w'.frozen? ⟨w.heap.size, 14, none⟩ = false := by
      intro w' k5
      refine ⟨?_, ?_, ?_, ?_, ?_, ?_, ?_, ?_, ?_, ?_, ?_, ?_, ?_, ?_, ?_, ?_, ?_, ?_, ?_, ?_, ?_, ?_, ?_, ?_, ?_, ?_, ?_, ?_, ?_, ?_⟩ <;> first | exact k5.frozen _ | (rw [k5.cell]; rfl)
    have SS : ∀ w', Below w1.heap.size w1 w' → w'.cell? ⟨w.heap.size, 0, none⟩ = some (.int .i64 0) ∧ w'.cell? ⟨w.heap.size, 1, none⟩ = some (.int .i64 0) ∧ w'.cell? ⟨w.heap.size, 2, none⟩ = some (.int .i64 0) ∧ w'.cell? ⟨w.heap.size, 3, none⟩ = some (.bool false) ∧ w'.cell? ⟨w.heap.size, 4, none⟩ = some (.slice none 0 0) ∧ w'.cell? ⟨w.heap.size, 5, none⟩ = some (.int .i64 0) ∧ w'.cell? ⟨w.heap.size, 6, none⟩ = some (.bool false) ∧ w'.cell? ⟨w.heap.size, 7, none⟩ = some (.slice none 0 0) ∧ w'.cell? ⟨w.heap.size, 8, none⟩ = some (.int .i64 0) ∧ w'.cell? ⟨w.heap.size, 9, none⟩ = some (.bool false) ∧ w'.cell? ⟨w.heap.size, 10, none⟩ = some (.slice none 0 0) ∧ w'.cell? ⟨w.heap.size, 11, none⟩ = some (.int .i64 0) ∧ w'.cell? ⟨w.heap.size, 12, none⟩ = some (.bool false) ∧ w'.cell? ⟨w.heap.size, 13, none⟩ = some (.slice none 0 0) ∧ w'.cell? ⟨w.heap.size, 14, none⟩ = some (.int .i64 0) ∧ w'.frozen? ⟨w.heap.size, 0, none⟩ = false ∧ w'.frozen? ⟨w.heap.size, 1, none⟩ = false ∧ w'.frozen? ⟨w.heap.size, 2, none⟩ = false ∧ w'.frozen? ⟨w.heap.size, 3, none⟩ = false ∧ w'.frozen? ⟨w.heap.size, 4, none⟩ = false ∧ w'.frozen? ⟨w.heap.size, 5, none⟩ = false ∧ w'.frozen? ⟨w.heap.size, 6, none⟩ = false ∧ w'.frozen? ⟨w.heap.size, 7, none⟩ = false ∧ w'.frozen? ⟨w.heap.size, 8, none⟩ = false ∧ w'.frozen? ⟨w.heap.size, 9, none⟩ = false ∧ w'.frozen? ⟨w.heap.size, 10, none⟩ = false ∧ w'.frozen? ⟨w.heap.size, 11, none⟩ = false ∧ w'.frozen? ⟨w.heap.size, 12, none⟩ = false ∧ w'.frozen? ⟨w.heap.size, 13, none⟩ = false ∧ w'.frozen? ⟨w.heap.size, 14, none⟩ = false := fun w' hw => SB w' (kb1.below hw kb1.lt)
    obtain ⟨u0, u1, u2, u3, u4, u5, u6, u7, u8, u9, u10, u11, u12, u13, u14, uf0, uf1, uf2, uf3, uf4, uf5, uf6, uf7, uf8, uf9, uf10, uf11, uf12, uf13, uf14⟩ := SS w1 (Below.refl _ _)
    obtain ⟨W9, hW9⟩ : ∃ W9, W9 = (b15 w1 w.heap.size (.int .i64 0) (.int .i64 0) (.int .i64 0) (.bool false) (.slice none 0 0) (.int .i64 0) (.bool false) (.slice none 0 0) (.int .i64 0) (.bool false) (.slice none 0 0) (.int .i64 0) (.bool false) (.slice none 0 0) (.int .i64 0)) := ⟨_, rfl⟩
    have k9 : Blk W9 w.heap.size 40 #[.int .i64 0, .int .i64 0, .int .i64 0, .bool false, .slice none 0 0, .int .i64 0, .bool false, .slice none 0 0, .int .i64 0, .bool false, .slice none 0 0, .int .i64 0, .bool false, .slice none 0 0, .int .i64 0] := by rw [hW9]; exact (b15_blk kb1 rfl (.int .i64 0) (.int .i64 0) (.int .i64 0) (.bool false) (.slice none 0 0) (.int .i64 0) (.bool false) (.slice none 0 0) (.int .i64 0) (.bool false) (.slice none 0 0) (.int .i64 0) (.bool false) (.slice none 0 0) (.int .i64 0))
    have g9 : Hid (PairE w (.slice none 0 0) ([]) (zE) (zO) W9) := Lib.hid (by rw [hW9]; exact ⟨((pairC_nil w1 V.heap.size).other (by omega) (b15_other w1 _ (.int .i64 0) (.int .i64 0) (.int .i64 0) (.bool false) (.slice none 0 0) (.int .i64 0) (.bool false) (.slice none 0 0) (.int .i64 0) (.bool false) (.slice none 0 0) (.int .i64 0) (.bool false) (.slice none 0 0) (.int .i64 0))).base_le (by omega), b15_below hb1 (Nat.le_refl _) (.int .i64 0) (.int .i64 0) (.int .i64 0) (.bool false) (.slice none 0 0) (.int .i64 0) (.bool false) (.slice none 0 0) (.int .i64 0) (.bool false) (.slice none 0 0) (.int .i64 0) (.bool false) (.slice none 0 0) (.int .i64 0)⟩)
    unfold b15 at hW9
    go_wp2
    clear u0 u1 u2 u3 u4 u5 u6 u7 u8 u9 u10 u11 u12 u13 u14 uf0 uf1 uf2 uf3 uf4 uf5 uf6 uf7 uf8 uf9 uf10 uf11 uf12 uf13 uf14
    clear SS SB
    rw [← hW9]
    clear hW9
    have pu0 : W9.cell? ⟨w.heap.size, 0, none⟩ = some (.int .i64 0) := by rw [k9.cell]; rfl
    have pu1 : W9.cell? ⟨w.heap.size, 1, none⟩ = some (.int .i64 0) := by rw [k9.cell]; rfl
    have pu2 : W9.cell? ⟨w.heap.size, 2, none⟩ = some (.int .i64 0) := by rw [k9.cell]; rfl
    have pu3 : W9.cell? ⟨w.heap.size, 3, none⟩ = some (.bool false) := by rw [k9.cell]; rfl
    have pu4 : W9.cell? ⟨w.heap.size, 4, none⟩ = some (.slice none 0 0) := by rw [k9.cell]; rfl
    have pu5 : W9.cell? ⟨w.heap.size, 5, none⟩ = some (.int .i64 0) := by rw [k9.cell]; rfl
    have pu6 : W9.cell? ⟨w.heap.size, 6, none⟩ = some (.bool false) := by rw [k9.cell]; rfl
    have pu7 : W9.cell? ⟨w.heap.size, 7, none⟩ = some (.slice none 0 0) := by rw [k9.cell]; rfl
    have pu8 : W9.cell? ⟨w.heap.size, 8, none⟩ = some (.int .i64 0) := by rw [k9.cell]; rfl
    have pu9 : W9.cell? ⟨w.heap.size, 9, none⟩ = some (.bool false) := by rw [k9.cell]; rfl
    have pu10 : W9.cell? ⟨w.heap.size, 10, none⟩ = some (.slice none 0 0) := by rw [k9.cell]; rfl
    have pu11 : W9.cell? ⟨w.heap.size, 11, none⟩ = some (.int .i64 0) := by rw [k9.cell]; rfl
    have pu12 : W9.cell? ⟨w.heap.size, 12, none⟩ = some (.bool false) := by rw [k9.cell]; rfl
    have pu13 : W9.cell? ⟨w.heap.size, 13, none⟩ = some (.slice none 0 0) := by rw [k9.cell]; rfl
    have pu14 : W9.cell? ⟨w.heap.size, 14, none⟩ = some (.int .i64 0) := by rw [k9.cell]; rfl
    clear k9
    refine ⟨rfl, .tuple #[.slice none 0 0, .agg #[.int .i64 0, .int .i64 0, .int .i64 0, .bool false, .slice none 0 0, .int .i64 0, .bool false, .slice none 0 0, .int .i64 0, .bool false, .slice none 0 0, .int .i64 0, .bool false, .slice none 0 0, .int .i64 0], .int .i64 2], ?_, [], zE, zO, _, _, _, rfl, gd.out, rfl, g9.out⟩
    simp [results, Try.f15, go_sem, pu0, pu1, pu2, pu3, pu4, pu5, pu6, pu7, pu8, pu9, pu10, pu11, pu12, pu13, pu14]
  · exact absurd ⟨hE, hne⟩ gX.out
set_option maxRecDepth 100000 in
set_option maxHeartbeats 16000000 in
theorem rland_any_none (A : Option Addr) (n c : Nat) (l : List En) (hm : n ≤ 10000) (hnc : n ≤ c) (hs1 : ∀ x ∈ l, smM x.give) (w : World) (h : Ens w w.heap.size A n l) (N : Int) (hX : ChkF l 0 ∧ (0 ≤ N ∧ N ≤ 1048575)) (hno : ∀ (j : Nat) (x : En), l[j]? = some x → x.nu ≠ N) : Calls Try.prog 15 #[.slice A n c, .int .i64 N] w fun en w' => ∃ l' x ox v vx E, en = .returned (.tuple #[v, vx, .int .i64 E]) ∧ CmeF true l N l' x E ∧ vx = aggE ox ∧ PairE w v l' x ox w' := by
  obtain ⟨V, hV⟩ : ∃ V, V = w.alloc (.cells #[.int .i64 0, .int .i64 0, .int .i64 0, .bool false, .slice none 0 0, .int .i64 0, .bool false, .slice none 0 0, .int .i64 0, .bool false, .slice none 0 0, .int .i64 0, .bool false, .slice none 0 0, .int .i64 0] 40) := ⟨_, rfl⟩
  have hBV : Below w.heap.size w V := by rw [hV]; exact (Below.refl _ _).alloc (Nat.le_refl _) _
  have hVs : w.heap.size < V.heap.size := by rw [hV, World.size_alloc]; exact Nat.lt_succ_self _
  have kb : Blk V w.heap.size 40 #[.int .i64 0, .int .i64 0, .int .i64 0, .bool false, .slice none 0 0, .int .i64 0, .bool false, .slice none 0 0, .int .i64 0, .bool false, .slice none 0 0, .int .i64 0, .bool false, .slice none 0 0, .int .i64 0] := by rw [hV]; exact Blk.new w _ _
  have hf := rasked_any A n c l (by unfold maxLen; omega) V (Recs.more (Recs.below h hBV) hBV.size) N
  have gln := Lib.hid (ens_len h)
  have gh := Lib.hid h
  have gs := Lib.hid hs1
  have gX := Lib.hid hX
  have gY := Lib.hid hno
  clear hno
  clear h hs1 hX
  go_enter Try.func15, Try.ntmps15
  go_wp2_with fail
  rw [← hV]
  clear hV
  refine hf.mono ?_
  rintro en w1 ⟨E, rfl, hF, hb1'⟩
  clear hf
  have hb1 : Below w.heap.size w w1 := hBV.trans (hb1'.mono hBV.size)
  have kb1 := kb.below hb1' kb.lt
  have s1 : V.heap.size ≤ w1.heap.size := hb1'.size
  have kl1 := kb1.lt
  rcases hF with ⟨hE, hne⟩ | ⟨hE, hne, rfl⟩ | ⟨hE, hne, rfl⟩
  · exact absurd (chk_one hE gX.out.1) hne
  · exact absurd gX.out.2 hne
  · have gE := Lib.hid hE
    have gn : Hid (∀ {l' x}, _ → CmeF true l N l' x 0) := Lib.hid (fun hh => .inr (.inr ⟨hE, hne, rfl, hh⟩))
    have hn16 : n ≤ 16 := by
      rcases hE.has with ⟨h, _⟩ | ⟨_, h, _⟩ | ⟨h, _⟩
      · cases h
      · rw [← gln.out]; exact h
      · cases h
    have hp2 := rplace_any A n c l hn16 w1 (Recs.more (Recs.below gh.out hb1) hb1.size) N
    clear hE hne
    go_wp2_with fail
    refine hp2.mono ?_
    rintro en w2 ⟨a, rfl, hP, hb2'⟩
    clear hp2
    have hb2 : Below w.heap.size w w2 := hb1.trans (hb2'.mono hb1.size)
    have s2 : w1.heap.size ≤ w2.heap.size := hb2'.size
    have kb2 := kb1.below hb2' kb1.lt
    have h2 : Ens w2 w2.heap.size A n l := Recs.more (Recs.below gh.out hb2) hb2.size
    rcases hP with ⟨k, rfl, hk, hkx, hkj⟩ | ⟨rfl, hno⟩
    · exact absurd (hkx _ (List.getElem?_eq_getElem hk)) (gY.out _ _ (List.getElem?_eq_getElem hk))
    · have ht := retwin_any A n c l hm gs.out w2 h2
      have gd : Hid (CmeF true l N l zE 0) := Lib.hid (gn.out (.inr ⟨hno, rfl, rfl⟩))
      clear h2 hno
      go_wp2_with fail
      refine ht.mono ?_
      rintro en w3 ⟨Ao, co, rfl, hTw⟩
      have hb3' := hTw.2.2.2.1
      have hb3 : Below w.heap.size w w3 := hb2.trans (hb3'.mono hb2.size)
      have s3 : w2.heap.size ≤ w3.heap.size := hb3'.size
      have kb3 := kb2.below hb3' kb2.lt
      have gP := Lib.hid (pairC_zero hTw.2.2.2.2)
      clear ht hTw
      have SB : ∀ w', Blk w' w.heap.size 40 #[.int .i64 0, .int .i64 0, .int .i64 0, .bool false, .slice none 0 0, .int .i64 0, .bool false, .slice none 0 0, .int .i64 0, .bool false, .slice none 0 0, .int .i64 0, .bool false, .slice none 0 0, .int .i64 0] → w'.cell? ⟨w.heap.size, 0, none⟩ = some (.int .i64 0) ∧ w'.cell? ⟨w.heap.size, 1, none⟩ = some (.int .i64 0) ∧ w'.cell? ⟨w.heap.size, 2, none⟩ = some (.int .i64 0) ∧ w'.cell? ⟨w.heap.size, 3, none⟩ = some (.bool false) ∧ w'.cell? ⟨w.heap.size, 4, none⟩ = some (.slice none 0 0) ∧ w'.cell? ⟨w.heap.size, 5, none⟩ = some (.int .i64 0) ∧ w'.cell? ⟨w.heap.size, 6, none⟩ = some (.bool false) ∧ w'.cell? ⟨w.heap.size, 7, none⟩ = some (.slice none 0 0) ∧ w'.cell? ⟨w.heap.size, 8, none⟩ = some (.int .i64 0) ∧ w'.cell? ⟨w.heap.size, 9, none⟩ = some (.bool false) ∧ w'.cell? ⟨w.heap.size, 10, none⟩ = some (.slice none 0 0) ∧ w'.cell? ⟨w.heap.size, 11, none⟩ = some (.int .i64 0) ∧ w'.cell? ⟨w.heap.size, 12, none⟩ = some (.bool false) ∧ w'.cell? ⟨w.heap.size, 13, none⟩ = some (.slice none 0 0) ∧ w'.cell? ⟨w.heap.size, 14, none⟩ = some (.int .i64 0) ∧ w'.frozen? ⟨w.heap.size, 0, none⟩ = false ∧ w'.frozen? ⟨w.heap.size, 1, none⟩ = false ∧ w'.frozen? ⟨w.heap.size, 2, none⟩ = false ∧ w'.frozen? ⟨w.heap.size, 3, none⟩ = false ∧ w'.frozen? ⟨w.heap.size, 4, none⟩ = false ∧ w'.frozen? ⟨w.heap.size, 5, none⟩ = false ∧ w'.frozen? ⟨w.heap.size, 6, none⟩ = false ∧ w'.frozen? ⟨w.heap.size, 7, none⟩ = false ∧ w'.frozen? ⟨w.heap.size, 8, none⟩ = false ∧ w'.frozen? ⟨w.heap.size, 9, none⟩ = false ∧ w'.frozen? ⟨w.heap.size, 10, none⟩ = false ∧ w'.frozen? ⟨w.heap.size, 11, none⟩ = false ∧ w'.frozen? ⟨w.heap.size, 12, none⟩ = false ∧ w'.frozen? ⟨w.heap.size, 13, none⟩ = false ∧ w'.frozen? ⟨w.heap.size, 14, none⟩ = false := by
        intro w' k5
        refine ⟨?_, ?_, ?_, ?_, ?_, ?_, ?_, ?_, ?_, ?_, ?_, ?_, ?_, ?_, ?_, ?_, ?_, ?_, ?_, ?_, ?_, ?_, ?_, ?_, ?_, ?_, ?_, ?_, ?_, ?_⟩ <;> first | exact k5.frozen _ | (rw [k5.cell]; rfl)
      have SS : ∀ w', Below w3.heap.size w3 w' → w'.cell? ⟨w.heap.size, 0, none⟩ = some (.int .i64 0) ∧ w'.cell? ⟨w.heap.size, 1, none⟩ = some (.int .i64 0) ∧ w'.cell? ⟨w.heap.size, 2, none⟩ = some (.int .i64 0) ∧ w'.cell? ⟨w.heap.size, 3, none⟩ = some (.bool false) ∧ w'.cell? ⟨w.heap.size, 4, none⟩ = some (.slice none 0 0) ∧ w'.cell? ⟨w.heap.size, 5, none⟩ = some (.int .i64 0) ∧ w'.cell? ⟨w.heap.size, 6, none⟩ = some (.bool false) ∧ w'.cell? ⟨w.heap.size, 7, none⟩ = some (.slice none 0 0) ∧ w'.cell? ⟨w.heap.size, 8, none⟩ = some (.int .i64 0) ∧ w'.cell? ⟨w.heap.size, 9, none⟩ = some (.bool false) ∧ w'.cell? ⟨w.heap.size, 10, none⟩ = some (.slice none 0 0) ∧ w'.cell? ⟨w.heap.size, 11, none⟩ = some (.int .i64 0) ∧ w'.cell? ⟨w.heap.size, 12, none⟩ = some (.bool false) ∧ w'.cell? ⟨w.heap.size, 13, none⟩ = some (.slice none 0 0) ∧ w'.cell? ⟨w.heap.size, 14, none⟩ = some (.int .i64 0) ∧ w'.frozen? ⟨w.heap.size, 0, none⟩ = false ∧ w'.frozen? ⟨w.heap.size, 1, none⟩ = false ∧ w'.frozen? ⟨w.heap.size, 2, none⟩ = false ∧ w'.frozen? ⟨w.heap.size, 3, none⟩ = false ∧ w'.frozen? ⟨w.heap.size, 4, none⟩ = false ∧ w'.frozen? ⟨w.heap.size, 5, none⟩ = false ∧ w'.frozen? ⟨w.heap.size, 6, none⟩ = false ∧ w'.frozen? ⟨w.heap.size, 7, none⟩ = false ∧ w'.frozen? ⟨w.heap.size, 8, none⟩ = false ∧ w'.frozen? ⟨w.heap.size, 9, none⟩ = false ∧ w'.frozen? ⟨w.heap.size, 10, none⟩ = false ∧ w'.frozen? ⟨w.heap.size, 11, none⟩ = false ∧ w'.frozen? ⟨w.heap.size, 12, none⟩ = false ∧ w'.frozen? ⟨w.heap.size, 13, none⟩ = false ∧ w'.frozen? ⟨w.heap.size, 14, none⟩ = false := fun w' hw => SB w' (kb3.below hw kb3.lt)
      obtain ⟨u0, u1, u2, u3, u4, u5, u6, u7, u8, u9, u10, u11, u12, u13, u14, uf0, uf1, uf2, uf3, uf4, uf5, uf6, uf7, uf8, uf9, uf10, uf11, uf12, uf13, uf14⟩ := SS w3 (Below.refl _ _)
      obtain ⟨W9, hW9⟩ : ∃ W9, W9 = (b15 w3 w.heap.size (.int .i64 0) (.int .i64 0) (.int .i64 0) (.bool false) (.slice none 0 0) (.int .i64 0) (.bool false) (.slice none 0 0) (.int .i64 0) (.bool false) (.slice none 0 0) (.int .i64 0) (.bool false) (.slice none 0 0) (.int .i64 0)) := ⟨_, rfl⟩
      have k9 : Blk W9 w.heap.size 40 #[.int .i64 0, .int .i64 0, .int .i64 0, .bool false, .slice none 0 0, .int .i64 0, .bool false, .slice none 0 0, .int .i64 0, .bool false, .slice none 0 0, .int .i64 0, .bool false, .slice none 0 0, .int .i64 0] := by rw [hW9]; exact (b15_blk kb3 rfl (.int .i64 0) (.int .i64 0) (.int .i64 0) (.bool false) (.slice none 0 0) (.int .i64 0) (.bool false) (.slice none 0 0) (.int .i64 0) (.bool false) (.slice none 0 0) (.int .i64 0) (.bool false) (.slice none 0 0) (.int .i64 0))
      have g9 : Hid (PairE w (.slice Ao n co) (l) (zE) (zO) W9) := Lib.hid (by rw [hW9]; exact ⟨(gP.out.other (by omega) (b15_other w3 _ (.int .i64 0) (.int .i64 0) (.int .i64 0) (.bool false) (.slice none 0 0) (.int .i64 0) (.bool false) (.slice none 0 0) (.int .i64 0) (.bool false) (.slice none 0 0) (.int .i64 0) (.bool false) (.slice none 0 0) (.int .i64 0))).base_le (by omega), b15_below hb3 (Nat.le_refl _) (.int .i64 0) (.int .i64 0) (.int .i64 0) (.bool false) (.slice none 0 0) (.int .i64 0) (.bool false) (.slice none 0 0) (.int .i64 0) (.bool false) (.slice none 0 0) (.int .i64 0) (.bool false) (.slice none 0 0) (.int .i64 0)⟩)
      unfold b15 at hW9
      go_wp2
      clear u0 u1 u2 u3 u4 u5 u6 u7 u8 u9 u10 u11 u12 u13 u14 uf0 uf1 uf2 uf3 uf4 uf5 uf6 uf7 uf8 uf9 uf10 uf11 uf12 uf13 uf14
      clear SS SB
      rw [← hW9]
      clear hW9
      have pu0 : W9.cell? ⟨w.heap.size, 0, none⟩ = some (.int .i64 0) := by rw [k9.cell]; rfl
      have pu1 : W9.cell? ⟨w.heap.size, 1, none⟩ = some (.int .i64 0) := by rw [k9.cell]; rfl
      have pu2 : W9.cell? ⟨w.heap.size, 2, none⟩ = some (.int .i64 0) := by rw [k9.cell]; rfl
      have pu3 : W9.cell? ⟨w.heap.size, 3, none⟩ = some (.bool false) := by rw [k9.cell]; rfl
      have pu4 : W9.cell? ⟨w.heap.size, 4, none⟩ = some (.slice none 0 0) := by rw [k9.cell]; rfl
      have pu5 : W9.cell? ⟨w.heap.size, 5, none⟩ = some (.int .i64 0) := by rw [k9.cell]; rfl
      have pu6 : W9.cell? ⟨w.heap.size, 6, none⟩ = some (.bool false) := by rw [k9.cell]; rfl
      have pu7 : W9.cell? ⟨w.heap.size, 7, none⟩ = some (.slice none 0 0) := by rw [k9.cell]; rfl
      have pu8 : W9.cell? ⟨w.heap.size, 8, none⟩ = some (.int .i64 0) := by rw [k9.cell]; rfl
      have pu9 : W9.cell? ⟨w.heap.size, 9, none⟩ = some (.bool false) := by rw [k9.cell]; rfl
      have pu10 : W9.cell? ⟨w.heap.size, 10, none⟩ = some (.slice none 0 0) := by rw [k9.cell]; rfl
      have pu11 : W9.cell? ⟨w.heap.size, 11, none⟩ = some (.int .i64 0) := by rw [k9.cell]; rfl
      have pu12 : W9.cell? ⟨w.heap.size, 12, none⟩ = some (.bool false) := by rw [k9.cell]; rfl
      have pu13 : W9.cell? ⟨w.heap.size, 13, none⟩ = some (.slice none 0 0) := by rw [k9.cell]; rfl
      have pu14 : W9.cell? ⟨w.heap.size, 14, none⟩ = some (.int .i64 0) := by rw [k9.cell]; rfl
      clear k9
      refine ⟨rfl, .tuple #[.slice Ao n co, .agg #[.int .i64 0, .int .i64 0, .int .i64 0, .bool false, .slice none 0 0, .int .i64 0, .bool false, .slice none 0 0, .int .i64 0, .bool false, .slice none 0 0, .int .i64 0, .bool false, .slice none 0 0, .int .i64 0], .int .i64 0], ?_, l, zE, zO, _, _, _, rfl, gd.out, rfl, g9.out⟩
      simp [results, Try.f15, go_sem, pu0, pu1, pu2, pu3, pu4, pu5, pu6, pu7, pu8, pu9, pu10, pu11, pu12, pu13, pu14]
set_option maxRecDepth 100000 in
set_option maxHeartbeats 16000000 in
theorem rland_any_some (A : Option Addr) (n c : Nat) (l : List En) (hm : n ≤ 10000) (hnc : n ≤ c) (hs1 : ∀ x ∈ l, smM x.give) (w : World) (h : Ens w w.heap.size A n l) (N : Int) (hX : ChkF l 0 ∧ (0 ≤ N ∧ N ≤ 1048575)) (hyes : ∃ (j : Nat) (x : En), l[j]? = some x ∧ x.nu = N) : Calls Try.prog 15 #[.slice A n c, .int .i64 N] w fun en w' => ∃ l' x ox v vx E, en = .returned (.tuple #[v, vx, .int .i64 E]) ∧ CmeF true l N l' x E ∧ vx = aggE ox ∧ PairE w v l' x ox w' := by
  obtain ⟨V, hV⟩ : ∃ V, V = w.alloc (.cells #[.int .i64 0, .int .i64 0, .int .i64 0, .bool false, .slice none 0 0, .int .i64 0, .bool false, .slice none 0 0, .int .i64 0, .bool false, .slice none 0 0, .int .i64 0, .bool false, .slice none 0 0, .int .i64 0] 40) := ⟨_, rfl⟩
  have hBV : Below w.heap.size w V := by rw [hV]; exact (Below.refl _ _).alloc (Nat.le_refl _) _
  have hVs : w.heap.size < V.heap.size := by rw [hV, World.size_alloc]; exact Nat.lt_succ_self _
  have kb : Blk V w.heap.size 40 #[.int .i64 0, .int .i64 0, .int .i64 0, .bool false, .slice none 0 0, .int .i64 0, .bool false, .slice none 0 0, .int .i64 0, .bool false, .slice none 0 0, .int .i64 0, .bool false, .slice none 0 0, .int .i64 0] := by rw [hV]; exact Blk.new w _ _
  have hf := rasked_any A n c l (by unfold maxLen; omega) V (Recs.more (Recs.below h hBV) hBV.size) N
  have gln := Lib.hid (ens_len h)
  have gh := Lib.hid h
  have gs := Lib.hid hs1
  have gX := Lib.hid hX
  have gY := Lib.hid hyes
  clear hyes
  clear h hs1 hX
  go_enter Try.func15, Try.ntmps15
  go_wp2_with fail
  rw [← hV]
  clear hV
  refine hf.mono ?_
  rintro en w1 ⟨E, rfl, hF, hb1'⟩
  clear hf
  have hb1 : Below w.heap.size w w1 := hBV.trans (hb1'.mono hBV.size)
  have kb1 := kb.below hb1' kb.lt
  have s1 : V.heap.size ≤ w1.heap.size := hb1'.size
  have kl1 := kb1.lt
  rcases hF with ⟨hE, hne⟩ | ⟨hE, hne, rfl⟩ | ⟨hE, hne, rfl⟩
  · exact absurd (chk_one hE gX.out.1) hne
  · exact absurd gX.out.2 hne
  · have gE := Lib.hid hE
    have gn : Hid (∀ {l' x}, _ → CmeF true l N l' x 0) := Lib.hid (fun hh => .inr (.inr ⟨hE, hne, rfl, hh⟩))
    have hn16 : n ≤ 16 := by
      rcases hE.has with ⟨h, _⟩ | ⟨_, h, _⟩ | ⟨h, _⟩
      · cases h
      · rw [← gln.out]; exact h
      · cases h
    have hp2 := rplace_any A n c l hn16 w1 (Recs.more (Recs.below gh.out hb1) hb1.size) N
    clear hE hne
    go_wp2_with fail
    refine hp2.mono ?_
    rintro en w2 ⟨a, rfl, hP, hb2'⟩
    clear hp2
    have hb2 : Below w.heap.size w w2 := hb1.trans (hb2'.mono hb1.size)
    have s2 : w1.heap.size ≤ w2.heap.size := hb2'.size
    have kb2 := kb1.below hb2' kb1.lt
    have h2 : Ens w2 w2.heap.size A n l := Recs.more (Recs.below gh.out hb2) hb2.size
    rcases hP with ⟨k, rfl, hk, hkx, hkj⟩ | ⟨rfl, hno⟩
    rotate_left
    · obtain ⟨j, x, hx, hxn⟩ := gY.out
      exact absurd hxn (hno _ _ hx)
    · obtain ⟨x, hx⟩ : ∃ x, l[k]? = some x := ⟨_, List.getElem?_eq_getElem hk⟩
      have hxn := hkx x hx
      have hlt : k < n := by rw [← gln.out]; exact hk
      have gx := Lib.hid hx
      have gxn := Lib.hid hxn
      have gh2 := Lib.hid h2
      obtain ⟨ad, hA, _⟩ := h2.2 (by omega)
      subst hA
      have i0 : decide ((k : Int) < 0) = false := decide_eq_false (by omega)
      have i1 : (0 : Int) ≤ k := by omega
      have i2 : (k : Int) < n := by omega
      clear h2 hkx hkj hk hxn
      have gd : Hid (CmeF true l N (l.take k ++ l.drop (k + 1)) x 0) := Lib.hid (gn.out (.inl ⟨k, x, gx.out, gxn.out, .inl ⟨by simp, rfl, rfl⟩⟩))
      clear hx
      have hwo : ∀ w', Below w2.heap.size w2 w' → Calls Try.prog 42 #[.slice (some ad) n c, .int .i64 (k : Int)] w' fun en w'' => ∃ Ao co, en = .returned (.slice Ao (n - 1) co) ∧ AccE w'' w'.heap.size (.slice Ao (n - 1) co) (n - 1) (l.take k ++ l.drop (k + 1)) ∧ Below w'.heap.size w' w'' :=
        fun w' hw => (rwithout_any (some ad) n c l k hlt (by omega) hnc gs.out w' ((gh2.out.below hw).more hw.size)).mono (by rintro en w'' ⟨Ao, co, rfl, hT⟩; exact ⟨Ao, co, rfl, hT.2.2.2.2, hT.2.2.2.1⟩)
      have htw : ∀ w', Below w2.heap.size w2 w' → Calls Try.prog 8 #[.slice (some (ad.add (k * 15))) 1 (c - k)] w' fun en w'' => ∃ (g co : Nat) (o : EO), en = .returned (.slice (some ⟨g, 0, none⟩) 1 co) ∧ o.x = x ∧ ownE w'' w'.heap.size o ∧ (w''.cell? ⟨g, 0, none⟩ = some (.int .i64 o.x.nu) ∧ w''.cell? ⟨g, 1, none⟩ = some (.int .i64 o.x.ep) ∧ w''.cell? ⟨g, 2, none⟩ = some (.int .i64 o.x.cp) ∧ w''.cell? ⟨g, 3, none⟩ = some (.bool o.x.give.s.neg) ∧ w''.cell? ⟨g, 4, none⟩ = some (.slice o.X0 o.x.give.s.ls.length o.c0) ∧ w''.cell? ⟨g, 5, none⟩ = some (.int .i64 o.x.give.s.ex) ∧ w''.cell? ⟨g, 6, none⟩ = some (.bool o.x.give.w.neg) ∧ w''.cell? ⟨g, 7, none⟩ = some (.slice o.X1 o.x.give.w.ls.length o.c1) ∧ w''.cell? ⟨g, 8, none⟩ = some (.int .i64 o.x.give.w.ex) ∧ w''.cell? ⟨g, 9, none⟩ = some (.bool o.x.give.c.neg) ∧ w''.cell? ⟨g, 10, none⟩ = some (.slice o.X2 o.x.give.c.ls.length o.c2) ∧ w''.cell? ⟨g, 11, none⟩ = some (.int .i64 o.x.give.c.ex) ∧ w''.cell? ⟨g, 12, none⟩ = some (.bool o.x.give.a.neg) ∧ w''.cell? ⟨g, 13, none⟩ = some (.slice o.X3 o.x.give.a.ls.length o.c3) ∧ w''.cell? ⟨g, 14, none⟩ = some (.int .i64 o.x.give.a.ex)) ∧ Below w'.heap.size w' w'' := by
        intro w' hw
        have d2 := ((gh2.out.below hw).more hw.size).cut (show k ≤ n by omega) hnc
        rw [if_neg (by omega), Option.map_some, ← List.map_drop] at d2
        have d3 := d2.take (show 1 ≤ n - k by omega)
        rw [← List.map_take, takeE_one gx.out] at d3
        refine (retwin_any _ 1 (c - k) _ (by omega) (fun y hy => ?_) w' d3).mono ?_
        · rw [List.mem_singleton.1 hy]; exact gs.out _ (List.mem_of_getElem? gx.out)
        · rintro en w'' ⟨Ao, co, rfl, hT⟩
          obtain ⟨g, o, rfl, ho, hw9, hce⟩ := accE_one hT.2.2.2.2
          exact ⟨g, co, o, rfl, ho, hw9, hce, hT.2.2.2.1⟩
      have i3 : (k : Int) ≤ (k : Int) + 1 := by omega
      have i5 : (k : Int) + 1 ≤ n := by omega
      have i7 : (k : Int) ≤ c := by omega
      have i8 : (0 : Int) ≤ (k : Int) + 1 := by omega
      have i9 : ((k : Int) + 1).toNat = k + 1 := by omega
      have i10 : ¬ c = k := by omega
      have i11 : ¬ c = 0 := by omega
      have i13 : (k : Int) + 1 ≤ c := by omega
      have w9 : IntKind.i64.wrap ((k : Int) + 1) = (k : Int) + 1 := IntWalk.i64_in _ (by omega)
      have hs0 : Below w2.heap.size w2 w2 := Below.refl _ _
      go_wp2_with fail
      refine wp_region_noPanic ?_
      refine wp_region_held_drew (S := fun _ => True) (by kernel_rfl) (trivial) (fun hHeld => ?_)
      refine wpAnyH_take (i := 0) (oi := ?o0x1) (v := ?v0x1) ?ho0x1 (by kernel_rfl) (by kernel_rfl) (by kernel_rfl) (fun _ _ _ h => h) (Or.inl ⟨?wn0x1, ?yn0x1⟩) (by assumption) ?rest0x1
      case ho0x1 => (simp only [List.getElem?_toArray, List.getElem?_cons_zero, List.getElem?_cons_succ]; rfl)
      case wn0x1 => rfl
      case yn0x1 => (intro w hSw; (try dsimp only at hSw); go_simp; (try with_reducible rfl))
      (try simp only [Act.put, List.setIfInBounds_toArray, List.set_cons_zero, List.set_cons_succ])
      refine wpAnyH_take (i := 1) (oi := ?o1x1) (v := ?v1x1) ?ho1x1 (by kernel_rfl) (by kernel_rfl) (by kernel_rfl) (fun _ _ _ h => h) (Or.inl ⟨?wn1x1, ?yn1x1⟩) (by assumption) ?rest1x1
      case ho1x1 => (simp only [List.getElem?_toArray, List.getElem?_cons_zero, List.getElem?_cons_succ]; rfl)
      case wn1x1 => rfl
      case yn1x1 => (intro w hSw; (try dsimp only at hSw); go_simp; (try with_reducible rfl))
      (try simp only [Act.put, List.setIfInBounds_toArray, List.set_cons_zero, List.set_cons_succ])
      refine wpAnyH_take (i := 3) (oi := ?o3x1) (v := ?v3x1) ?ho3x1 (by kernel_rfl) (by kernel_rfl) (by kernel_rfl) (fun _ _ _ h => h) (Or.inl ⟨?wn3x1, ?yn3x1⟩) (by assumption) ?rest3x1
      case ho3x1 => (simp only [List.getElem?_toArray, List.getElem?_cons_zero, List.getElem?_cons_succ]; rfl)
      case wn3x1 => rfl
      case yn3x1 => (intro w hSw; (try dsimp only at hSw); go_simp; (try with_reducible rfl))
      (try simp only [Act.put, List.setIfInBounds_toArray, List.set_cons_zero, List.set_cons_succ])
      refine wpAnyH_take (i := 4) (oi := ?o4x1) (v := ?v4x1) ?ho4x1 (by kernel_rfl) (by kernel_rfl) (by kernel_rfl) (fun _ _ _ h => h) (Or.inl ⟨?wn4x1, ?yn4x1⟩) (by assumption) ?rest4x1
      case ho4x1 => (simp only [List.getElem?_toArray, List.getElem?_cons_zero, List.getElem?_cons_succ]; rfl)
      case wn4x1 => rfl
      case yn4x1 => (intro w hSw; (try dsimp only at hSw); go_simp; (try with_reducible rfl))
      (try simp only [Act.put, List.setIfInBounds_toArray, List.set_cons_zero, List.set_cons_succ])
      refine wpAnyH_take (i := 5) (oi := ?o5x1) (v := ?v5x1) ?ho5x1 (by kernel_rfl) (by kernel_rfl) (by kernel_rfl) (fun _ _ _ h => h) (Or.inl ⟨?wn5x1, ?yn5x1⟩) (by assumption) ?rest5x1
      case ho5x1 => (simp only [List.getElem?_toArray, List.getElem?_cons_zero, List.getElem?_cons_succ]; rfl)
      case wn5x1 => rfl
      case yn5x1 => (intro w hSw; (try dsimp only at hSw); go_simp; (try with_reducible rfl))
      (try simp only [Act.put, List.setIfInBounds_toArray, List.set_cons_zero, List.set_cons_succ])
      refine wpAnyH_take (i := 6) (oi := ?o6x1) (v := ?v6x1) ?ho6x1 (by kernel_rfl) (by kernel_rfl) (by kernel_rfl) (fun _ _ _ h => h) (Or.inl ⟨?wn6x1, ?yn6x1⟩) (by assumption) ?rest6x1
      case ho6x1 => (simp only [List.getElem?_toArray, List.getElem?_cons_zero, List.getElem?_cons_succ]; rfl)
      case wn6x1 => rfl
      case yn6x1 => (intro w hSw; (try dsimp only at hSw); go_simp; (try with_reducible rfl))
      (try simp only [Act.put, List.setIfInBounds_toArray, List.set_cons_zero, List.set_cons_succ])
      refine wpAnyH_take (i := 7) (oi := ?o7x1) (v := ?v7x1) ?ho7x1 (by kernel_rfl) (by kernel_rfl) (by kernel_rfl) (fun _ _ _ h => h) (Or.inl ⟨?wn7x1, ?yn7x1⟩) (by assumption) ?rest7x1
      case ho7x1 => (simp only [List.getElem?_toArray, List.getElem?_cons_zero, List.getElem?_cons_succ]; rfl)
      case wn7x1 => rfl
      case yn7x1 => (intro w hSw; (try dsimp only at hSw); go_simp; (try with_reducible rfl))
      (try simp only [Act.put, List.setIfInBounds_toArray, List.set_cons_zero, List.set_cons_succ])
      refine wpAnyH_ready (rs := [2]) (by kernel_rfl) (by simp) ?_
      refine AllReadyH.cons (o := ?o2x1) ?ho2x1 (fun K hK => ?rest2x1) AllReadyH.nil
      case ho2x1 => (simp only [List.getElem?_toArray, List.getElem?_cons_zero, List.getElem?_cons_succ]; rfl)
      go_simp
      with_reducible refine (hwo _ (by (repeat first | with_reducible assumption | with_reducible exact Below.refl _ _ | with_reducible refine Below.drew ?_ | (with_reducible refine Below.setCell ?_ (by first | exact Nat.le_refl _ | (simp only [World.size_alloc, World.size_drew, World.size_setCell]; omega) | omega) _) | (with_reducible refine Below.alloc ?_ (by first | exact Nat.le_refl _ | (simp only [World.size_alloc, World.size_drew, World.size_setCell]; omega) | omega) _)))).mono ?_
      rintro en w8 ⟨Ao, co, rfl, ho8, hb8⟩
      have hb9 : Below w2.heap.size w2 w8 := Below.trans (by (repeat first | with_reducible assumption | with_reducible exact Below.refl _ _ | with_reducible refine Below.drew ?_ | (with_reducible refine Below.setCell ?_ (by first | exact Nat.le_refl _ | (simp only [World.size_alloc, World.size_drew, World.size_setCell]; omega) | omega) _) | (with_reducible refine Below.alloc ?_ (by first | exact Nat.le_refl _ | (simp only [World.size_alloc, World.size_drew, World.size_setCell]; omega) | omega) _))) (hb8.mono (by first | exact Nat.le_refl _ | (simp only [World.size_alloc, World.size_drew, World.size_setCell]; omega) | omega))
      clear hwo
      refine hK.out _ _ (trivial) (fun hHeld => ?_)
      clear hK K
      (try simp only [Act.put, List.setIfInBounds_toArray, List.set_cons_zero, List.set_cons_succ])
      refine wpAnyH_ready (rs := [8]) (by kernel_rfl) (by simp) ?_
      refine AllReadyH.cons (o := ?o8x1) ?ho8x1 (fun K hK => ?rest8x1) AllReadyH.nil
      case ho8x1 => (simp only [List.getElem?_toArray, List.getElem?_cons_zero, List.getElem?_cons_succ]; rfl)
      go_simp
      with_reducible refine (htw _ (by (repeat first | with_reducible assumption | with_reducible exact Below.refl _ _ | with_reducible refine Below.drew ?_ | (with_reducible refine Below.setCell ?_ (by first | exact Nat.le_refl _ | (simp only [World.size_alloc, World.size_drew, World.size_setCell]; omega) | omega) _) | (with_reducible refine Below.alloc ?_ (by first | exact Nat.le_refl _ | (simp only [World.size_alloc, World.size_drew, World.size_setCell]; omega) | omega) _)))).mono ?_
      rintro en wB ⟨g, c9, o, rfl, hox, how, ⟨a0, a1, a2, a3, a4, a5, a6, a7, a8, a9, a10, a11, a12, a13, a14⟩, hb10⟩
      have hb11 : Below w2.heap.size w2 wB := hb9.trans (hb10.mono hb9.size)
      clear htw
      have kb9 := kb2.below hb11 kb2.lt
      have hb12 : Below w.heap.size w wB := hb2.trans (hb11.mono hb2.size)
      have gP : Hid (PairC V.heap.size (.slice Ao (n - 1) co) (l.take k ++ l.drop (k + 1)) o.x o wB) := Lib.hid ((pair_of ho8 hb10 (by have := hb8.size; omega) how).base_le (by simp only [World.size_drew]; omega))
      rw [← hox] at gd
      clear ho8 how hb8 hb9 hb10 hb11
      obtain ⟨⟨nu, ep, cp, ⟨⟨ag0, l0, ae0⟩, ⟨ag1, l1, ae1⟩, ⟨ag2, l2, ae2⟩, ⟨ag3, l3, ae3⟩⟩⟩, X0, c0, X1, c1, X2, c2, X3, c3⟩ := o
      dsimp only at a0 a1 a2 a3 a4 a5 a6 a7 a8 a9 a10 a11 a12 a13 a14 gP gd hox
      have uf0 : wB.frozen? ⟨w.heap.size, 0, none⟩ = false := kb9.frozen 0
      have uf1 : wB.frozen? ⟨w.heap.size, 1, none⟩ = false := kb9.frozen 1
      have uf2 : wB.frozen? ⟨w.heap.size, 2, none⟩ = false := kb9.frozen 2
      have uf3 : wB.frozen? ⟨w.heap.size, 3, none⟩ = false := kb9.frozen 3
      have uf4 : wB.frozen? ⟨w.heap.size, 4, none⟩ = false := kb9.frozen 4
      have uf5 : wB.frozen? ⟨w.heap.size, 5, none⟩ = false := kb9.frozen 5
      have uf6 : wB.frozen? ⟨w.heap.size, 6, none⟩ = false := kb9.frozen 6
      have uf7 : wB.frozen? ⟨w.heap.size, 7, none⟩ = false := kb9.frozen 7
      have uf8 : wB.frozen? ⟨w.heap.size, 8, none⟩ = false := kb9.frozen 8
      have uf9 : wB.frozen? ⟨w.heap.size, 9, none⟩ = false := kb9.frozen 9
      have uf10 : wB.frozen? ⟨w.heap.size, 10, none⟩ = false := kb9.frozen 10
      have uf11 : wB.frozen? ⟨w.heap.size, 11, none⟩ = false := kb9.frozen 11
      have uf12 : wB.frozen? ⟨w.heap.size, 12, none⟩ = false := kb9.frozen 12
      have uf13 : wB.frozen? ⟨w.heap.size, 13, none⟩ = false := kb9.frozen 13
      have uf14 : wB.frozen? ⟨w.heap.size, 14, none⟩ = false := kb9.frozen 14
      have u0 : wB.cell? ⟨w.heap.size, 0, none⟩ = some (.int .i64 0) := by rw [kb9.cell]; rfl
      have u1 : wB.cell? ⟨w.heap.size, 1, none⟩ = some (.int .i64 0) := by rw [kb9.cell]; rfl
      have u2 : wB.cell? ⟨w.heap.size, 2, none⟩ = some (.int .i64 0) := by rw [kb9.cell]; rfl
      have u3 : wB.cell? ⟨w.heap.size, 3, none⟩ = some (.bool false) := by rw [kb9.cell]; rfl
      have u4 : wB.cell? ⟨w.heap.size, 4, none⟩ = some (.slice none 0 0) := by rw [kb9.cell]; rfl
      have u5 : wB.cell? ⟨w.heap.size, 5, none⟩ = some (.int .i64 0) := by rw [kb9.cell]; rfl
      have u6 : wB.cell? ⟨w.heap.size, 6, none⟩ = some (.bool false) := by rw [kb9.cell]; rfl
      have u7 : wB.cell? ⟨w.heap.size, 7, none⟩ = some (.slice none 0 0) := by rw [kb9.cell]; rfl
      have u8 : wB.cell? ⟨w.heap.size, 8, none⟩ = some (.int .i64 0) := by rw [kb9.cell]; rfl
      have u9 : wB.cell? ⟨w.heap.size, 9, none⟩ = some (.bool false) := by rw [kb9.cell]; rfl
      have u10 : wB.cell? ⟨w.heap.size, 10, none⟩ = some (.slice none 0 0) := by rw [kb9.cell]; rfl
      have u11 : wB.cell? ⟨w.heap.size, 11, none⟩ = some (.int .i64 0) := by rw [kb9.cell]; rfl
      have u12 : wB.cell? ⟨w.heap.size, 12, none⟩ = some (.bool false) := by rw [kb9.cell]; rfl
      have u13 : wB.cell? ⟨w.heap.size, 13, none⟩ = some (.slice none 0 0) := by rw [kb9.cell]; rfl
      have u14 : wB.cell? ⟨w.heap.size, 14, none⟩ = some (.int .i64 0) := by rw [kb9.cell]; rfl
      refine hK.out _ _ (trivial) (fun hHeld => ?_)
      clear hK K
      (try simp only [Act.put, List.setIfInBounds_toArray, List.set_cons_zero, List.set_cons_succ])
      refine wpAnyH_take (i := 9) (oi := ?o9x1) (v := ?v9x1) ?ho9x1 (by kernel_rfl) (by kernel_rfl) (by kernel_rfl) (fun _ _ _ h => h) (Or.inl ⟨?wn9x1, ?yn9x1⟩) (by assumption) ?rest9x1
      case ho9x1 => (simp only [List.getElem?_toArray, List.getElem?_cons_zero, List.getElem?_cons_succ]; rfl)
      case wn9x1 => rfl
      case yn9x1 => (intro w hSw; (try dsimp only at hSw); go_simp; (try with_reducible rfl))
      (try simp only [Act.put, List.setIfInBounds_toArray, List.set_cons_zero, List.set_cons_succ])
      refine wpAnyH_take (i := 11) (oi := ?o11x1) (v := ?v11x1) ?ho11x1 (by kernel_rfl) (by kernel_rfl) (by kernel_rfl) (fun _ _ _ h => h) (Or.inl ⟨?wn11x1, ?yn11x1⟩) (by assumption) ?rest11x1
      case ho11x1 => (simp only [List.getElem?_toArray, List.getElem?_cons_zero, List.getElem?_cons_succ]; rfl)
      case wn11x1 => rfl
      case yn11x1 => (intro w hSw; (try dsimp only at hSw); go_simp; (try with_reducible rfl))
      (try simp only [Act.put, List.setIfInBounds_toArray, List.set_cons_zero, List.set_cons_succ])
      refine wpAnyH_ready (rs := [10]) (by kernel_rfl) (by simp) ?_
      refine AllReadyH.cons (o := ?o10x1) ?ho10x1 (fun K hK => ?rest10x1) AllReadyH.nil
      case ho10x1 => (simp only [List.getElem?_toArray, List.getElem?_cons_zero, List.getElem?_cons_succ]; rfl)
      go_simp
      refine hK.out _ _ (trivial) (fun hHeld => ?_)
      clear hK K
      (try simp only [Act.put, List.setIfInBounds_toArray, List.set_cons_zero, List.set_cons_succ])
      refine wpAnyH_ready (rs := [12]) (by kernel_rfl) (by simp) ?_
      refine AllReadyH.cons (o := ?o12x1) ?ho12x1 (fun K hK => ?rest12x1) AllReadyH.nil
      case ho12x1 => (simp only [List.getElem?_toArray, List.getElem?_cons_zero, List.getElem?_cons_succ]; rfl)
      go_simp
      refine hK.out _ _ (trivial) (fun hHeld => ?_)
      clear hK K
      (try simp only [Act.put, List.setIfInBounds_toArray, List.set_cons_zero, List.set_cons_succ])
      refine wpAnyH_take (i := 13) (oi := ?o13x1) (v := ?v13x1) ?ho13x1 (by kernel_rfl) (by kernel_rfl) (by kernel_rfl) (fun _ _ _ h => h) (Or.inl ⟨?wn13x1, ?yn13x1⟩) (by assumption) ?rest13x1
      case ho13x1 => (simp only [List.getElem?_toArray, List.getElem?_cons_zero, List.getElem?_cons_succ]; rfl)
      case wn13x1 => rfl
      case yn13x1 => (intro w hSw; (try dsimp only at hSw); go_simp; (try with_reducible rfl))
      (try simp only [Act.put, List.setIfInBounds_toArray, List.set_cons_zero, List.set_cons_succ])
      refine wpAnyH_done (by kernel_rfl) ?_ _
      refine NoPanic.normal ?_
      clear u0 u1 u2 u3 u4 u5 u6 u7 u8 u9 u10 u11 u12 u13 u14 uf0 uf1 uf2 uf3 uf4 uf5 uf6 uf7 uf8 uf9 uf10 uf11 uf12 uf13 uf14 a0 a1 a2 a3 a4 a5 a6 a7 a8 a9 a10 a11 a12 a13 a14
      obtain ⟨W9, hW9⟩ : ∃ W9, W9 = (b15 wB w.heap.size (.int .i64 nu) (.int .i64 ep) (.int .i64 cp) (.bool ag0) (.slice X0 l0.length c0) (.int .i64 ae0) (.bool ag1) (.slice X1 l1.length c1) (.int .i64 ae1) (.bool ag2) (.slice X2 l2.length c2) (.int .i64 ae2) (.bool ag3) (.slice X3 l3.length c3) (.int .i64 ae3)) := ⟨_, rfl⟩
      have k9 : Blk W9 w.heap.size 40 #[.int .i64 nu, .int .i64 ep, .int .i64 cp, .bool ag0, .slice X0 l0.length c0, .int .i64 ae0, .bool ag1, .slice X1 l1.length c1, .int .i64 ae1, .bool ag2, .slice X2 l2.length c2, .int .i64 ae2, .bool ag3, .slice X3 l3.length c3, .int .i64 ae3] := by rw [hW9]; exact (b15_blk kb9 rfl (.int .i64 nu) (.int .i64 ep) (.int .i64 cp) (.bool ag0) (.slice X0 l0.length c0) (.int .i64 ae0) (.bool ag1) (.slice X1 l1.length c1) (.int .i64 ae1) (.bool ag2) (.slice X2 l2.length c2) (.int .i64 ae2) (.bool ag3) (.slice X3 l3.length c3) (.int .i64 ae3))
      have g9 : Hid (PairE w (.slice Ao (n - 1) co) ((l.take k ++ l.drop (k + 1))) ((⟨nu, ep, cp, ⟨⟨ag0, l0, ae0⟩, ⟨ag1, l1, ae1⟩, ⟨ag2, l2, ae2⟩, ⟨ag3, l3, ae3⟩⟩⟩ : En)) ((⟨⟨nu, ep, cp, ⟨⟨ag0, l0, ae0⟩, ⟨ag1, l1, ae1⟩, ⟨ag2, l2, ae2⟩, ⟨ag3, l3, ae3⟩⟩⟩, X0, c0, X1, c1, X2, c2, X3, c3⟩ : EO)) W9) := Lib.hid (by rw [hW9]; exact ⟨(gP.out.other (by omega) (b15_other wB _ (.int .i64 nu) (.int .i64 ep) (.int .i64 cp) (.bool ag0) (.slice X0 l0.length c0) (.int .i64 ae0) (.bool ag1) (.slice X1 l1.length c1) (.int .i64 ae1) (.bool ag2) (.slice X2 l2.length c2) (.int .i64 ae2) (.bool ag3) (.slice X3 l3.length c3) (.int .i64 ae3))).base_le (by omega), b15_below hb12 (Nat.le_refl _) (.int .i64 nu) (.int .i64 ep) (.int .i64 cp) (.bool ag0) (.slice X0 l0.length c0) (.int .i64 ae0) (.bool ag1) (.slice X1 l1.length c1) (.int .i64 ae1) (.bool ag2) (.slice X2 l2.length c2) (.int .i64 ae2) (.bool ag3) (.slice X3 l3.length c3) (.int .i64 ae3)⟩)
      unfold b15 at hW9
      go_wp2
      rw [← hW9]
      clear hW9
      have pu0 : W9.cell? ⟨w.heap.size, 0, none⟩ = some (.int .i64 nu) := by rw [k9.cell]; rfl
      have pu1 : W9.cell? ⟨w.heap.size, 1, none⟩ = some (.int .i64 ep) := by rw [k9.cell]; rfl
      have pu2 : W9.cell? ⟨w.heap.size, 2, none⟩ = some (.int .i64 cp) := by rw [k9.cell]; rfl
      have pu3 : W9.cell? ⟨w.heap.size, 3, none⟩ = some (.bool ag0) := by rw [k9.cell]; rfl
      have pu4 : W9.cell? ⟨w.heap.size, 4, none⟩ = some (.slice X0 l0.length c0) := by rw [k9.cell]; rfl
      have pu5 : W9.cell? ⟨w.heap.size, 5, none⟩ = some (.int .i64 ae0) := by rw [k9.cell]; rfl
      have pu6 : W9.cell? ⟨w.heap.size, 6, none⟩ = some (.bool ag1) := by rw [k9.cell]; rfl
      have pu7 : W9.cell? ⟨w.heap.size, 7, none⟩ = some (.slice X1 l1.length c1) := by rw [k9.cell]; rfl
      have pu8 : W9.cell? ⟨w.heap.size, 8, none⟩ = some (.int .i64 ae1) := by rw [k9.cell]; rfl
      have pu9 : W9.cell? ⟨w.heap.size, 9, none⟩ = some (.bool ag2) := by rw [k9.cell]; rfl
      have pu10 : W9.cell? ⟨w.heap.size, 10, none⟩ = some (.slice X2 l2.length c2) := by rw [k9.cell]; rfl
      have pu11 : W9.cell? ⟨w.heap.size, 11, none⟩ = some (.int .i64 ae2) := by rw [k9.cell]; rfl
      have pu12 : W9.cell? ⟨w.heap.size, 12, none⟩ = some (.bool ag3) := by rw [k9.cell]; rfl
      have pu13 : W9.cell? ⟨w.heap.size, 13, none⟩ = some (.slice X3 l3.length c3) := by rw [k9.cell]; rfl
      have pu14 : W9.cell? ⟨w.heap.size, 14, none⟩ = some (.int .i64 ae3) := by rw [k9.cell]; rfl
      clear k9
      refine ⟨rfl, .tuple #[.slice Ao (n - 1) co, .agg #[.int .i64 nu, .int .i64 ep, .int .i64 cp, .bool ag0, .slice X0 l0.length c0, .int .i64 ae0, .bool ag1, .slice X1 l1.length c1, .int .i64 ae1, .bool ag2, .slice X2 l2.length c2, .int .i64 ae2, .bool ag3, .slice X3 l3.length c3, .int .i64 ae3], .int .i64 0], ?_, (l.take k ++ l.drop (k + 1)), (⟨nu, ep, cp, ⟨⟨ag0, l0, ae0⟩, ⟨ag1, l1, ae1⟩, ⟨ag2, l2, ae2⟩, ⟨ag3, l3, ae3⟩⟩⟩ : En), (⟨⟨nu, ep, cp, ⟨⟨ag0, l0, ae0⟩, ⟨ag1, l1, ae1⟩, ⟨ag2, l2, ae2⟩, ⟨ag3, l3, ae3⟩⟩⟩, X0, c0, X1, c1, X2, c2, X3, c3⟩ : EO), _, _, _, rfl, gd.out, rfl, g9.out⟩
      simp [results, Try.f15, go_sem, pu0, pu1, pu2, pu3, pu4, pu5, pu6, pu7, pu8, pu9, pu10, pu11, pu12, pu13, pu14]
theorem rland_any (A : Option Addr) (n c : Nat) (l : List En) (hm : n ≤ 10000) (hnc : n ≤ c) (hs1 : ∀ x ∈ l, smM x.give) (w : World) (h : Ens w w.heap.size A n l) (N : Int) : Calls Try.prog 15 #[.slice A n c, .int .i64 N] w fun en w' => ∃ l' x ox v vx E, en = .returned (.tuple #[v, vx, .int .i64 E]) ∧ CmeF true l N l' x E ∧ vx = aggE ox ∧ PairE w v l' x ox w' := by
  by_cases hX : ChkF l 0 ∧ (0 ≤ N ∧ N ≤ 1048575)
  · by_cases hy : ∃ (j : Nat) (x : En), l[j]? = some x ∧ x.nu = N
    · exact rland_any_some A n c l hm hnc hs1 w h N hX hy
    · exact rland_any_none A n c l hm hnc hs1 w h N hX (fun j x h1 h2 => hy ⟨j, x, h1, h2⟩)
  · exact rland_any_err A n c l hm hnc hs1 w h N hX
end Go.Proofs.Ytdmjdpaehnhdoaa
