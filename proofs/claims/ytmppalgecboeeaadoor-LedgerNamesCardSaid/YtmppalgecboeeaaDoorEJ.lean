/- Door: LedgerNames -/
import Derived.Test.YtmppalgecboeeaaDoorEI
import Derived.Test.YtmppalgecboeeaaDoorLD
import Derived.Laws.MakeOwn
namespace Go.Proofs.YtmppalgecboeeaaDoor
open Go.ChangeShapes Go.WideShapes Go.ChangeAt Go.RowKit
set_option linter.unusedSimpArgs false
set_option linter.unusedVariables false
open Go.Shelf
set_option maxRecDepth 100000
theorem addr0 (g j : Nat) : (⟨g, 0, none⟩ : Addr).add j = ⟨g, j, none⟩ := by
  by_cases h : j = 0
  · subst h; rfl
  · rw [add_lit _ (by omega)]; simp
def e0 : EO := ⟨⟨0, 0, zM⟩, none, 0, none, 0, none, 0, none, 0⟩
def e6 : EO := ⟨⟨0, 6, zM⟩, none, 0, none, 0, none, 0, none, 0⟩
/-- The entries, so many of them with a reason. -/
def osK (n k : Nat) : List EO := List.replicate k e6 ++ List.replicate (n - k) e0
theorem osK_len {n k : Nat} (h : k ≤ n) : (osK n k).length = n := by simp [osK]; omega
theorem osK_at {n k : Nat} (h : k < n) : (osK n k)[k]? = some e0 := by
  unfold osK
  rw [List.getElem?_append_right (by simp), List.length_replicate, Nat.sub_self, List.getElem?_replicate, if_pos (by omega)]
theorem osK_set {n k : Nat} (h : k < n) : (osK n k).set k e6 = osK n (k + 1) := by
  unfold osK
  obtain ⟨m, hm⟩ : ∃ m, n - k = m + 1 := ⟨n - k - 1, by omega⟩
  rw [List.set_append_right _ _ (by simp), List.length_replicate, Nat.sub_self, hm, show n - (k + 1) = m by omega, List.replicate_succ, List.set_cons_zero, List.replicate_succ', List.append_assoc]
  rfl
theorem osK_end (n : Nat) : osK n n = List.replicate n e6 := by simp [osK]
def arrK (n k : Nat) : Array Value := ((osK n k).flatMap row14).toArray
theorem arrK_at {n k : Nat} (h : k < n) : (arrK n k)[k * 14 + 1]? = some (.int .u8 0) := by
  unfold arrK
  rw [List.getElem?_toArray]
  exact flat14_at _ k 1 e0 _ (osK_at h) rfl (by omega)
theorem arrK_set {n k : Nat} (h : k < n) : (arrK n k).setIfInBounds (k * 14 + 1) (.int .u8 6) = arrK n (k + 1) := by
  unfold arrK
  have h1 := flat14_set (osK n k) k 1 e0 e6 (.int .u8 6) (osK_at h) rfl (by omega)
  rw [List.setIfInBounds_toArray, h1, osK_set h]
theorem made_E (n : Nat) : (Obj.cells (madeCells (Value.agg #[.int .i64 0, .int .u8 0, .bool false, .slice none 0 0, .int .i64 0, .bool false, .slice none 0 0, .int .i64 0, .bool false, .slice none 0 0, .int .i64 0, .bool false, .slice none 0 0, .int .i64 0]).cells (n * 14)) 53) = .cells (arrK n 0) 53 := by
  congr 1
  unfold arrK
  apply Array.ext
  · have e : (((osK n 0).flatMap row14).toArray).size = n * 14 := by rw [List.size_toArray, flat14_len, osK_len (Nat.zero_le n)]
    rw [e]
    simp [madeCells]
  · intro i h1 h2
    have hi : i < n * 14 := by
      have h2' := h2
      rw [List.size_toArray, flat14_len, osK_len (Nat.zero_le n)] at h2'
      exact h2'
    have h3 : i % 14 < 14 := Nat.mod_lt _ (by decide)
    have h4 : i / 14 < n := by omega
    have h5 : i / 14 * 14 + i % 14 = i := by omega
    have h6 : (osK n 0)[i / 14]? = some e0 := by
      unfold osK
      simp [List.getElem?_replicate, h4]
    have hv : ∃ v, (row14 e0)[i % 14]? = some v := ⟨(row14 e0)[i % 14]'h3, List.getElem?_eq_getElem _⟩
    obtain ⟨v, hv⟩ := hv
    have h7 := flat14_at (osK n 0) (i / 14) (i % 14) e0 v h6 hv h3
    rw [h5] at h7
    have h8 : ((osK n 0).flatMap row14).toArray[i]? = some v := by rw [List.getElem?_toArray]; exact h7
    rw [Array.getElem?_eq_getElem h2] at h8
    injection h8 with h8
    rw [h8]
    simp only [madeCells, Array.getElem_ofFn, Value.cells]
    have hq : i % 14 = 0 ∨ i % 14 = 1 ∨ i % 14 = 2 ∨ i % 14 = 3 ∨ i % 14 = 4 ∨ i % 14 = 5 ∨ i % 14 = 6 ∨ i % 14 = 7 ∨ i % 14 = 8 ∨ i % 14 = 9 ∨ i % 14 = 10 ∨ i % 14 = 11 ∨ i % 14 = 12 ∨ i % 14 = 13 := by omega
    rcases hq with h | h | h | h | h | h | h | h | h | h | h | h | h | h <;> (rw [h] at hv; injection hv with hv; rw [← hv]; simp [h]; first | done | rfl | exact ⟨rfl, rfl, rfl⟩)
def zerosE (n : Nat) : Obj := .cells (arrK n 0) 53
theorem run_zerosE (n : Nat) (hn : n ≤ 10000) (w : World) : (Instr.makeSlice 22 (.int .i64 (n : Int)) (.int .i64 (n : Int))).run Tryd.prog w = .ok (.slice (some ⟨w.heap.size, 0, none⟩) n n) (w.alloc (zerosE n)) := by
  obtain ⟨i0, hi0, hz0, hz1, hz2⟩ := info_parts infoE
  have := run_make (P := Tryd.prog) w 22 53 i0 _ Tryd.underlying22 hi0 hz0 .i64 .i64 n n (by omega) (Int.le_refl _) (by rw [hz2]; omega) (by omega)
  rw [this, zerosE, ← made_E, hz1]
  simp
theorem ens_K {w : World} {g n k m : Nat} (h : Blk w g 53 (arrK n k)) (hk : k ≤ n) (hm : m ≤ n) : Ens w w.heap.size (some ⟨g, 0, none⟩) m (((osK n k).take m).map (·.x)) := by
  have hl : ((osK n k).take m).length = m := by rw [List.length_take, osK_len hk]; omega
  refine rows_ens (os := (osK n k).take m) ?_ ?_
  · refine ⟨by rw [flat14_len, hl], fun h0 => ⟨_, rfl, h.lt, fun j u hu => ?_⟩⟩
    have h2 : (arrK n k)[j]? = some u := by
      unfold arrK
      rw [List.getElem?_toArray, ← List.take_append_drop m (osK n k), List.flatMap_append]
      rw [List.getElem?_append_left (by obtain ⟨h3, _⟩ := List.getElem?_eq_some_iff.1 hu; exact h3)]
      exact hu
    rw [addr0, h.cell]
    exact h2
  · intro o ho
    have h1 : o = e6 ∨ o = e0 := by
      have h2 := List.mem_of_mem_take ho
      unfold osK at h2
      rcases List.mem_append.1 h2 with h2 | h2
      · exact .inl (List.eq_of_mem_replicate h2)
      · exact .inr (List.eq_of_mem_replicate h2)
    rcases h1 with rfl | rfl <;> exact ⟨⟨Nat.le_refl _, Reads.none_⟩, ⟨Nat.le_refl _, Reads.none_⟩, ⟨Nat.le_refl _, Reads.none_⟩, ⟨Nat.le_refl _, Reads.none_⟩⟩
theorem map_K (n m : Nat) (hm : m ≤ n) : ((osK n n).take m).map (·.x) = List.replicate m ⟨0, 6, zM⟩ := by
  rw [osK_end, List.take_replicate, List.map_replicate, Nat.min_eq_left hm]
  rfl
theorem rep_ask {n : Nat} (h : n ≤ 8192) : askL (List.replicate n (⟨0, 6, zM⟩ : En)) 0 1 = 0 := by
  have h1 : chkL (List.replicate n (⟨0, 6, zM⟩ : En)) = 0 := by
    unfold chkL
    rw [if_neg (by rw [List.length_replicate]; omega), if_pos]
    rw [List.all_eq_true]
    intro x hx
    rw [List.eq_of_mem_replicate hx]
    decide
  unfold askL
  rw [h1, if_neg (by decide), if_pos (by decide)]
theorem rep_sm (n : Nat) : ∀ x ∈ List.replicate n (⟨0, 6, zM⟩ : En), smM x.give := fun x hx => by rw [List.eq_of_mem_replicate hx]; exact zM_sm
theorem nbook9 (A : Option Addr) (c : Nat) (w : World) (h : Ens w w.heap.size A 8192 (List.replicate 8192 (⟨0, 6, zM⟩ : En))) (o : MB) (em : o.m = ofM 1) (u : RdO w o) : Calls Tryd.prog 11 #[.slice A 8192 c, .int .i64 0, .int .u8 1, .agg #[.bool o.m.s.neg, .slice o.X0 o.m.s.ls.length o.c0, .int .i64 o.m.s.ex, .bool o.m.w.neg, .slice o.X1 o.m.w.ls.length o.c1, .int .i64 o.m.w.ex, .bool o.m.c.neg, .slice o.X2 o.m.c.ls.length o.c2, .int .i64 o.m.c.ex, .bool o.m.a.neg, .slice o.X3 o.m.a.ls.length o.c3, .int .i64 o.m.a.ex]] w fun en w' => (∃ A' c', en = .returned (.tuple #[.slice A' 0 c', .int .i64 9])) ∧ Below w.heap.size w w' := by
  refine (book_any A 8192 c (List.replicate 8192 (⟨0, 6, zM⟩ : En)) (by omega) (rep_sm _) w h 0 1 o.m (by rw [em]; exact ofM_sm _) o.X0 o.c0 o.X1 o.c1 o.X2 o.c2 o.X3 o.c3 u).mono fun en w' hP => ?_
  have e : bkE (List.replicate 8192 (⟨0, 6, zM⟩ : En)) 0 1 o.m = 9 := by
    unfold bkE
    rw [rep_ask (Nat.le_refl _), if_neg (by decide), em, if_neg (by decide), if_neg (by decide), if_pos (by rw [List.length_replicate])]
  obtain ⟨A', c', he, hT⟩ := book_is (l' := []) hP e (by unfold bkL; rw [e, if_pos (by decide)])
  exact ⟨⟨A', c', he⟩, hT.2.2.2.1⟩
theorem nbook0 (A : Option Addr) (c : Nat) (w : World) (h : Ens w w.heap.size A 8192 (List.replicate 8192 (⟨0, 6, zM⟩ : En))) : Calls Tryd.prog 11 #[.slice A 8192 c, .int .i64 0, .int .u8 1, .agg #[.bool false, .slice none 0 0, .int .i64 0, .bool false, .slice none 0 0, .int .i64 0, .bool false, .slice none 0 0, .int .i64 0, .bool false, .slice none 0 0, .int .i64 0]] w fun en w' => (∃ A' c', en = .returned (.tuple #[.slice A' 8192 c', .int .i64 0])) ∧ Below w.heap.size w w' := by
  refine (book_any A 8192 c (List.replicate 8192 (⟨0, 6, zM⟩ : En)) (by omega) (rep_sm _) w h 0 1 zM zM_sm none 0 none 0 none 0 none 0 (rdM_zero w _)).mono fun en w' hP => ?_
  have e : bkE (List.replicate 8192 (⟨0, 6, zM⟩ : En)) 0 1 zM = 0 := by
    unfold bkE
    rw [rep_ask (Nat.le_refl _), if_neg (by decide), if_neg (by decide), if_pos rfl]
  obtain ⟨A', c', he, hT⟩ := book_is (l' := (List.replicate 8192 (⟨0, 6, zM⟩ : En))) hP e (by unfold bkL; rw [e, if_neg (by decide), if_pos rfl])
  rw [List.length_replicate] at he
  exact ⟨⟨A', c', he⟩, hT.2.2.2.1⟩
theorem nbook2 (w : World) (o : MB) (em : o.m = ofM 1) (u : RdO w o) : Calls Tryd.prog 11 #[.slice none 0 0, .int .i64 0, .int .u8 7, .agg #[.bool o.m.s.neg, .slice o.X0 o.m.s.ls.length o.c0, .int .i64 o.m.s.ex, .bool o.m.w.neg, .slice o.X1 o.m.w.ls.length o.c1, .int .i64 o.m.w.ex, .bool o.m.c.neg, .slice o.X2 o.m.c.ls.length o.c2, .int .i64 o.m.c.ex, .bool o.m.a.neg, .slice o.X3 o.m.a.ls.length o.c3, .int .i64 o.m.a.ex]] w fun en w' => (∃ A' c', en = .returned (.tuple #[.slice A' 0 c', .int .i64 2])) ∧ Below w.heap.size w w' := by
  refine (book_any none 0 0 [] (by omega) (fun x h => by cases h) w Recs.none_ 0 7 o.m (by rw [em]; exact ofM_sm _) o.X0 o.c0 o.X1 o.c1 o.X2 o.c2 o.X3 o.c3 u).mono fun en w' hP => ?_
  obtain ⟨A', c', he, hT⟩ := book_is (l' := []) hP (E := 2) (by rw [em]; decide +kernel) (by rw [em]; decide +kernel)
  exact ⟨⟨A', c', he⟩, hT.2.2.2.1⟩
def badM : Ms := ⟨⟨false, [], 0⟩, ⟨false, [], 0⟩, ⟨false, [], 0⟩, ⟨true, [], 0⟩⟩
theorem nbook8 (w : World) : Calls Tryd.prog 11 #[.slice none 0 0, .int .i64 0, .int .u8 1, .agg #[.bool false, .slice none 0 0, .int .i64 0, .bool false, .slice none 0 0, .int .i64 0, .bool false, .slice none 0 0, .int .i64 0, .bool true, .slice none 0 0, .int .i64 0]] w fun en w' => (∃ A' c', en = .returned (.tuple #[.slice A' 0 c', .int .i64 8])) ∧ Below w.heap.size w w' := by
  refine (book_any none 0 0 [] (by omega) (fun x h => by cases h) w Recs.none_ 0 1 badM ⟨Nat.zero_le _, Nat.zero_le _, Nat.zero_le _, Nat.zero_le _⟩ none 0 none 0 none 0 none 0 ⟨rdD_zero w _, rdD_zero w _, rdD_zero w _, ⟨rfl, rfl, rfl, Nat.le_refl _, Reads.none_⟩⟩).mono fun en w' hP => ?_
  obtain ⟨A', c', he, hT⟩ := book_is (l' := []) hP (E := 8) (by decide +kernel) (by decide +kernel)
  exact ⟨⟨A', c', he⟩, hT.2.2.2.1⟩
theorem lsum_err {E : Int} {s : Option Ms} {w w' : World} {en : Ending} (h0 : E ≠ 0) (h : LSumP E s w en w') : en = .returned (.tuple #[.agg #[.bool false, .slice none 0 0, .int .i64 0, .bool false, .slice none 0 0, .int .i64 0, .bool false, .slice none 0 0, .int .i64 0, .bool false, .slice none 0 0, .int .i64 0], .int .i64 E]) ∧ Below w.heap.size w w' := by
  obtain ⟨hb, ⟨_, he⟩ | ⟨h1, _⟩⟩ := h
  · exact ⟨he, hb⟩
  · exact absurd h1 h0
theorem nof2 (w : World) (hT : Tab w) : Calls Tryd.prog 15 #[.slice none 0 0, .int .i64 0, .int .u8 0] w fun en w' => en = .returned (.tuple #[.agg #[.bool false, .slice none 0 0, .int .i64 0, .bool false, .slice none 0 0, .int .i64 0, .bool false, .slice none 0 0, .int .i64 0, .bool false, .slice none 0 0, .int .i64 0], .int .i64 2]) ∧ Below w.heap.size w w' :=
  (lsumO_any none 0 0 [] (by omega) w Recs.none_ (fun x h => by cases h) 0 0 hT).mono fun en w' hP => lsum_err (E := 2) (by decide) hP
theorem nsum2 (w : World) (hT : Tab w) : Calls Tryd.prog 13 #[.slice none 0 0, .int .i64 65536] w fun en w' => en = .returned (.tuple #[.agg #[.bool false, .slice none 0 0, .int .i64 0, .bool false, .slice none 0 0, .int .i64 0, .bool false, .slice none 0 0, .int .i64 0, .bool false, .slice none 0 0, .int .i64 0], .int .i64 2]) ∧ Below w.heap.size w w' :=
  (lsumS_any none 0 0 [] (by omega) w Recs.none_ (fun x h => by cases h) 65536 hT).mono fun en w' hP => lsum_err (E := 2) (by decide) hP
theorem nclean4 (A : Option Addr) (c : Nat) (w : World) (h : Ens w w.heap.size A 8193 (List.replicate 8193 (⟨0, 6, zM⟩ : En))) : Calls Tryd.prog 17 #[.slice A 8193 c, .int .i64 0] w fun en w' => en = .returned (.tuple #[.bool false, .int .i64 4]) ∧ Below w.heap.size w w' := by
  refine (lclean_any A 8193 c _ (by omega) w h 0).mono fun en w' ⟨h1, h2⟩ => ⟨?_, h2⟩
  have e : askL (List.replicate 8193 (⟨0, 6, zM⟩ : En)) 0 1 = 4 := by
    have h1 : chkL (List.replicate 8193 (⟨0, 6, zM⟩ : En)) = 4 := by unfold chkL; rw [if_pos (by rw [List.length_replicate]; decide)]
    unfold askL
    rw [h1, if_pos (by decide)]
  rw [h1, e, if_neg (by decide)]
theorem ncheck8 (w : World) : Calls Tryd.prog 21 #[.slice (some ⟨w.heap.size, 0, none⟩) 1 1] (w.alloc (.cells #[.int .i64 0, .int .u8 0, .bool false, .slice none 0 0, .int .i64 0, .bool false, .slice none 0 0, .int .i64 0, .bool false, .slice none 0 0, .int .i64 0, .bool false, .slice none 0 0, .int .i64 0] 53)) fun en w' => en = .returned (.int .i64 8) ∧ Below (w.alloc (.cells #[.int .i64 0, .int .u8 0, .bool false, .slice none 0 0, .int .i64 0, .bool false, .slice none 0 0, .int .i64 0, .bool false, .slice none 0 0, .int .i64 0, .bool false, .slice none 0 0, .int .i64 0] 53)).heap.size (w.alloc (.cells #[.int .i64 0, .int .u8 0, .bool false, .slice none 0 0, .int .i64 0, .bool false, .slice none 0 0, .int .i64 0, .bool false, .slice none 0 0, .int .i64 0, .bool false, .slice none 0 0, .int .i64 0] 53)) w' := by
  have hk : Blk (w.alloc (.cells #[.int .i64 0, .int .u8 0, .bool false, .slice none 0 0, .int .i64 0, .bool false, .slice none 0 0, .int .i64 0, .bool false, .slice none 0 0, .int .i64 0, .bool false, .slice none 0 0, .int .i64 0] 53)) w.heap.size 53 (arrK 1 0) := Blk.new w _ _
  have he := ens_K hk (Nat.zero_le _) (Nat.le_refl 1)
  exact lgcheck_any _ 1 1 _ (by omega) _ he
set_option maxHeartbeats 32000000 in
theorem LedgerNames.walk (w : World) (hT : Tab w) : Calls Tryd.prog 4 #[] w fun en w' => en = .returned (.bool true) ∧ Below w.heap.size w w' := by
  have gT := Lib.hid hT
  clear hT
  have k1 := run_zerosE 8193 (by omega)
  have kz : Blk (w.alloc (zerosE 8193)) w.heap.size 53 (arrK 8193 0) := Blk.new w _ _
  obtain ⟨Z, hZ⟩ : ∃ Z, Z = zerosE 8193 := ⟨_, rfl⟩
  rw [← hZ] at k1 kz
  clear hZ
  simp only [Int.ofNat_eq_natCast, show ((8193 : Nat) : Int) = 8193 from rfl] at k1
  have gat := Lib.hid (fun k (h : k < 8193) => arrK_at h)
  have gset := Lib.hid (fun k (h : k < 8193) => arrK_set h)
  have gend : Hid (∀ w', Blk w' w.heap.size 53 (arrK 8193 8193) → Ens w' w'.heap.size (some ⟨w.heap.size, 0, none⟩) 8192 (List.replicate 8192 (⟨0, 6, zM⟩ : En)) ∧ Ens w' w'.heap.size (some ⟨w.heap.size, 0, none⟩) 8193 (List.replicate 8193 (⟨0, 6, zM⟩ : En))) := Lib.hid (fun w' h => ⟨by rw [← map_K 8193 8192 (by omega)]; exact ens_K h (Nat.le_refl _) (by omega), by rw [← map_K 8193 8193 (by omega)]; exact ens_K h (Nat.le_refl _) (by omega)⟩)
  obtain ⟨aK, haK⟩ : ∃ aK, aK = arrK 8193 := ⟨_, rfl⟩
  rw [← haK] at kz gat gset gend
  clear haK
  have hB0 : Below w.heap.size w (w.alloc Z) := (Below.refl _ w).alloc (Nat.le_refl _) _
  obtain ⟨V, hV⟩ : ∃ V, V = w.alloc Z := ⟨_, rfl⟩
  rw [← hV] at kz hB0
  obtain ⟨g, hg⟩ : ∃ g, g = w.heap.size := ⟨_, rfl⟩
  have k1' := k1 w
  rw [← hV, ← hg] at k1'
  have ghg := Lib.hid hg
  have gkz : Hid (Blk (w.alloc Z) g 53 (aK 0)) := Lib.hid (by rw [hg, ← hV]; exact kz)
  have ghB0 : Hid (Below g w (w.alloc Z)) := Lib.hid (by rw [hg, ← hV]; exact hB0)
  rw [hV] at k1'
  clear k1 hg kz hB0 hV
  go_enter Tryd.func4, Tryd.ntmps4
  go_wp2
  go_loopw [2] (fun t wr => ∃ k : Nat, k ≤ 8193 ∧ t = .int .i64 (k : Int) ∧ Hid (Blk wr g 53 (aK k)) ∧ Hid (Below g w wr)) (fun t _ => 8193 - (intOf t).toNat)
  case atStart => exact ⟨0, Nat.zero_le _, rfl, gkz, ghB0⟩
  case round =>
    obtain ⟨k, hk, rfl, gk, gB⟩ := hrel
    clear gkz ghB0 k1'
    by_cases hlt : k < 8193
    · have i1 : (0 : Int) ≤ k := by omega
      have i2 : (k : Int) < 8193 := by omega
      have hp : (⟨g, 0, none⟩ : Addr).add (k * 14) = ⟨g, k * 14, none⟩ := addr0 _ _
      have hc : wr.cell? ⟨g, k * 14 + 1, none⟩ = some (.int .u8 0) := by rw [gk.out.cell]; exact gat.out k hlt
      have hf := gk.out.frozen (k * 14 + 1)
      have gk' : Hid (Blk (wr.setCell ⟨g, k * 14 + 1, none⟩ (.int .u8 6)) g 53 (aK (k + 1))) := Lib.hid (by rw [← gset.out k hlt]; exact gk.out.set_ _ _)
      have gB' : Hid (Below g w (wr.setCell ⟨g, k * 14 + 1, none⟩ (.int .u8 6))) := Lib.hid (gB.out.setCell (p := ⟨g, k * 14 + 1, none⟩) (Nat.le_refl _) _)
      go_wp2
      go_roundw
      case rel => exact ⟨k + 1, by omega, by go_num, gk', gB'⟩
      case measure => simp [intOf]; omega
    · obtain rfl : k = 8193 := by omega
      obtain ⟨wq, hwq⟩ : ∃ wq, wq = wr := ⟨_, rfl⟩
      subst hwq
      have hg := ghg.out
      rw [← hg] at gend
      have ra := Lib.hid (gend.out wq gk.out).1
      have rb := Lib.hid (gend.out wq gk.out).2
      replace gB : Hid (Below w.heap.size w wq) := Lib.hid (by rw [← hg]; exact gB.out)
      replace gT := Lib.hid (Tab.below gT.out gB.out gT.out.2)
      clear gend gk gat gset hg hlt hk ghg
      go_upto_region 6 with (fail)
      refine wp_region_noPanic ?_
      refine wp_region_held_drew (S := fun _ => True) (by kernel_rfl) (trivial) (fun hHeld => ?_)
      refine wpAnyH_take (i := 0) (oi := ?o0) (v := ?v0) ?ho0 (by kernel_rfl) (by kernel_rfl) (by kernel_rfl) (fun _ _ _ h => h) (Or.inl ⟨?wn0, ?yn0⟩) (by assumption) ?rest0
      case ho0 => (simp only [List.getElem?_toArray, List.getElem?_cons_zero, List.getElem?_cons_succ]; rfl)
      case wn0 => rfl
      case yn0 => (intro w hSw; (try dsimp only at hSw); go_simp; (try with_reducible rfl))
      (try simp only [Act.put, List.setIfInBounds_toArray, List.set_cons_zero, List.set_cons_succ])
      refine wpAnyH_take (i := 1) (oi := ?o1) (v := ?v1) ?ho1 (by kernel_rfl) (by kernel_rfl) (by kernel_rfl) (fun _ _ _ h => h) (Or.inl ⟨?wn1, ?yn1⟩) (by assumption) ?rest1
      case ho1 => (simp only [List.getElem?_toArray, List.getElem?_cons_zero, List.getElem?_cons_succ]; rfl)
      case wn1 => rfl
      case yn1 => (intro w hSw; (try dsimp only at hSw); go_simp; (try with_reducible rfl))
      (try simp only [Act.put, List.setIfInBounds_toArray, List.set_cons_zero, List.set_cons_succ])
      refine wpAnyH_ready (rs := [2]) (by kernel_rfl) (by simp) ?_
      refine AllReadyH.cons (o := ?o2) ?ho2 (fun K hK => ?rest2) AllReadyH.nil
      case ho2 => (simp only [List.getElem?_toArray, List.getElem?_cons_zero, List.getElem?_cons_succ]; rfl)
      go_simp
      with_reducible refine (of_any 1 (by decide) _).mono ?_
      rintro en vA ⟨o1, rfl, em1, hom1, hvA⟩
      have hvA2 : Below wq.heap.size wq vA := Below.trans (by (repeat first | with_reducible assumption | with_reducible exact Below.refl _ _ | with_reducible refine Below.drew ?_ | (with_reducible refine Below.alloc ?_ (by first | exact Nat.le_refl _ | (simp only [World.size_alloc, World.size_drew, World.size_setCell]; omega) | omega) _))) (hvA.mono (by first | exact Nat.le_refl _ | (simp only [World.size_alloc, World.size_drew, World.size_setCell]; omega) | omega))
      have svA : wq.heap.size ≤ vA.heap.size := hvA2.size
      have gem1 : Hid (o1.m = ofM 1) := Lib.hid em1
      have ghom1 := Lib.hid hom1
      clear em1 hom1
      refine hK.out _ _ (trivial) (fun hHeld => ?_)
      clear hK K
      (try simp only [Act.put, List.setIfInBounds_toArray, List.set_cons_zero, List.set_cons_succ])
      refine wpAnyH_ready (rs := [3]) (by kernel_rfl) (by simp) ?_
      refine AllReadyH.cons (o := ?o3) ?ho3 (fun K hK => ?rest3) AllReadyH.nil
      case ho3 => (simp only [List.getElem?_toArray, List.getElem?_cons_zero, List.getElem?_cons_succ]; rfl)
      go_simp
      with_reducible refine (nbook9 (some ⟨g, 0, none⟩) 8193 _ (Recs.more (Recs.below ra.out (by (repeat first | with_reducible assumption | with_reducible exact Below.refl _ _ | with_reducible refine Below.drew ?_ | (with_reducible refine Below.alloc ?_ (by first | exact Nat.le_refl _ | (simp only [World.size_alloc, World.size_drew, World.size_setCell]; omega) | omega) _)))) (by first | exact Nat.le_refl _ | (simp only [World.size_alloc, World.size_drew, World.size_setCell]; omega) | omega)) o1 gem1.out ghom1.out.rd).mono ?_
      rintro en vB ⟨⟨A6, c6, rfl⟩, hvB⟩
      have hvB2 : Below wq.heap.size wq vB := Below.trans (by (repeat first | with_reducible assumption | with_reducible exact Below.refl _ _ | with_reducible refine Below.drew ?_ | (with_reducible refine Below.alloc ?_ (by first | exact Nat.le_refl _ | (simp only [World.size_alloc, World.size_drew, World.size_setCell]; omega) | omega) _))) (hvB.mono (by first | exact Nat.le_refl _ | (simp only [World.size_alloc, World.size_drew, World.size_setCell]; omega) | omega))
      have svB : wq.heap.size ≤ vB.heap.size := hvB2.size
      clear gem1 ghom1
      refine hK.out _ _ (trivial) (fun hHeld => ?_)
      clear hK K
      (try simp only [Act.put, List.setIfInBounds_toArray, List.set_cons_zero, List.set_cons_succ])
      refine wpAnyH_take (i := 4) (oi := ?o4) (v := ?v4) ?ho4 (by kernel_rfl) (by kernel_rfl) (by kernel_rfl) (fun _ _ _ h => h) (Or.inl ⟨?wn4, ?yn4⟩) (by assumption) ?rest4
      case ho4 => (simp only [List.getElem?_toArray, List.getElem?_cons_zero, List.getElem?_cons_succ]; rfl)
      case wn4 => rfl
      case yn4 => (intro w hSw; (try dsimp only at hSw); go_simp; (try with_reducible rfl))
      (try simp only [Act.put, List.setIfInBounds_toArray, List.set_cons_zero, List.set_cons_succ])
      refine wpAnyH_take (i := 5) (oi := ?o5) (v := ?v5) ?ho5 (by kernel_rfl) (by kernel_rfl) (by kernel_rfl) (fun _ _ _ h => h) (Or.inl ⟨?wn5, ?yn5⟩) (by assumption) ?rest5
      case ho5 => (simp only [List.getElem?_toArray, List.getElem?_cons_zero, List.getElem?_cons_succ]; rfl)
      case wn5 => rfl
      case yn5 => (intro w hSw; (try dsimp only at hSw); go_simp; (try with_reducible rfl))
      (try simp only [Act.put, List.setIfInBounds_toArray, List.set_cons_zero, List.set_cons_succ])
      refine wpAnyH_take (i := 6) (oi := ?o6) (v := ?v6) ?ho6 (by kernel_rfl) (by kernel_rfl) (by kernel_rfl) (fun _ _ _ h => h) (Or.inl ⟨?wn6, ?yn6⟩) (by assumption) ?rest6
      case ho6 => (simp only [List.getElem?_toArray, List.getElem?_cons_zero, List.getElem?_cons_succ]; rfl)
      case wn6 => rfl
      case yn6 => (intro w hSw; (try dsimp only at hSw); go_simp; (try with_reducible rfl))
      (try simp only [Act.put, List.setIfInBounds_toArray, List.set_cons_zero, List.set_cons_succ])
      refine wpAnyH_take (i := 7) (oi := ?o7) (v := ?v7) ?ho7 (by kernel_rfl) (by kernel_rfl) (by kernel_rfl) (fun _ _ _ h => h) (Or.inl ⟨?wn7, ?yn7⟩) (by assumption) ?rest7
      case ho7 => (simp only [List.getElem?_toArray, List.getElem?_cons_zero, List.getElem?_cons_succ]; rfl)
      case wn7 => rfl
      case yn7 => (intro w hSw; (try dsimp only at hSw); go_simp; (try with_reducible rfl))
      (try simp only [Act.put, List.setIfInBounds_toArray, List.set_cons_zero, List.set_cons_succ])
      refine wpAnyH_take (i := 8) (oi := ?o8) (v := ?v8) ?ho8 (by kernel_rfl) (by kernel_rfl) (by kernel_rfl) (fun _ _ _ h => h) (Or.inl ⟨?wn8, ?yn8⟩) (by assumption) ?rest8
      case ho8 => (simp only [List.getElem?_toArray, List.getElem?_cons_zero, List.getElem?_cons_succ]; rfl)
      case wn8 => rfl
      case yn8 => (intro w hSw; (try dsimp only at hSw); go_simp; (try with_reducible rfl))
      (try simp only [Act.put, List.setIfInBounds_toArray, List.set_cons_zero, List.set_cons_succ])
      refine wpAnyH_done (by kernel_rfl) ?_ _
      refine NoPanic.normal ?_
      have hb := hvB2
      have svB : wq.heap.size ≤ vB.heap.size := hb.size
      replace gT := Lib.hid (Tab.below gT.out hb gT.out.2)
      replace ra := Lib.hid (Recs.more (Recs.below ra.out hb) hb.size)
      replace rb := Lib.hid (Recs.more (Recs.below rb.out hb) hb.size)
      replace gB := Lib.hid (gB.out.trans (hb.mono gB.out.size))
      clear hb
      go_wp2_with fail
      refine (nbook0 (some ⟨g, 0, none⟩) 8193 vB ra.out).mono ?_
      rintro en x1 ⟨⟨A7, c7, rfl⟩, hb⟩
      have sx1 : vB.heap.size ≤ x1.heap.size := hb.size
      replace gT := Lib.hid (Tab.below gT.out hb gT.out.2)
      replace ra := Lib.hid (Recs.more (Recs.below ra.out hb) hb.size)
      replace rb := Lib.hid (Recs.more (Recs.below rb.out hb) hb.size)
      replace gB := Lib.hid (gB.out.trans (hb.mono gB.out.size))
      clear hb
      go_wp2_with fail
      refine (of_any 1 (by decide) x1).mono ?_
      rintro en x2 ⟨p, rfl, ep, up, hb⟩
      replace ep := Lib.hid ep
      replace up := Lib.hid up.rd
      have sx2 : x1.heap.size ≤ x2.heap.size := hb.size
      replace gT := Lib.hid (Tab.below gT.out hb gT.out.2)
      replace ra := Lib.hid (Recs.more (Recs.below ra.out hb) hb.size)
      replace rb := Lib.hid (Recs.more (Recs.below rb.out hb) hb.size)
      replace gB := Lib.hid (gB.out.trans (hb.mono gB.out.size))
      clear hb
      go_wp2_with fail
      refine (nbook2 x2 p ep.out up.out).mono ?_
      rintro en x3 ⟨⟨A8, c8, rfl⟩, hb⟩
      have sx3 : x2.heap.size ≤ x3.heap.size := hb.size
      replace gT := Lib.hid (Tab.below gT.out hb gT.out.2)
      replace ra := Lib.hid (Recs.more (Recs.below ra.out hb) hb.size)
      replace rb := Lib.hid (Recs.more (Recs.below rb.out hb) hb.size)
      replace up := Lib.hid (RdO.below up.out hb)
      replace gB := Lib.hid (gB.out.trans (hb.mono gB.out.size))
      clear hb
      clear up ep
      go_wp2_with fail
      refine (nof2 x3 gT.out).mono ?_
      rintro en x4 ⟨rfl, hb⟩
      have sx4 : x3.heap.size ≤ x4.heap.size := hb.size
      replace gT := Lib.hid (Tab.below gT.out hb gT.out.2)
      replace ra := Lib.hid (Recs.more (Recs.below ra.out hb) hb.size)
      replace rb := Lib.hid (Recs.more (Recs.below rb.out hb) hb.size)
      replace gB := Lib.hid (gB.out.trans (hb.mono gB.out.size))
      clear hb
      obtain ⟨tb1, ht⟩ : ∃ t, t = x4.heap.size := ⟨_, rfl⟩
      obtain ⟨y4b1, hy4b1⟩ : ∃ W, W = x4.alloc (.cells #[.bool false, .slice none 0 0, .int .i64 0, .bool false, .slice none 0 0, .int .i64 0, .bool false, .slice none 0 0, .int .i64 0, .bool false, .slice none 0 0, .int .i64 0] 27) := ⟨_, rfl⟩
      have hb : Below x4.heap.size x4 y4b1 := by rw [hy4b1]; exact (Below.refl _ _).alloc (Nat.le_refl _) _
      have kb1 : Blk y4b1 x4.heap.size 27 #[.bool false, .slice none 0 0, .int .i64 0, .bool false, .slice none 0 0, .int .i64 0, .bool false, .slice none 0 0, .int .i64 0, .bool false, .slice none 0 0, .int .i64 0] := by rw [hy4b1]; exact Blk.new _ _ _
      rw [← ht] at kb1
      replace kb1 := Lib.hid kb1
      have sy4b1 : x4.heap.size ≤ y4b1.heap.size := hb.size
      replace gT := Lib.hid (Tab.below gT.out hb gT.out.2)
      replace ra := Lib.hid (Recs.more (Recs.below ra.out hb) hb.size)
      replace rb := Lib.hid (Recs.more (Recs.below rb.out hb) hb.size)
      replace gB := Lib.hid (gB.out.trans (hb.mono gB.out.size))
      clear hb
      go_wp2_with fail
      rw [← hy4b1]
      clear hy4b1
      rw [← ht]
      clear ht
      refine (nsum2 y4b1 gT.out).mono ?_
      rintro en x5 ⟨rfl, hb⟩
      have sx5 : y4b1.heap.size ≤ x5.heap.size := hb.size
      replace gT := Lib.hid (Tab.below gT.out hb gT.out.2)
      replace ra := Lib.hid (Recs.more (Recs.below ra.out hb) hb.size)
      replace rb := Lib.hid (Recs.more (Recs.below rb.out hb) hb.size)
      replace kb1 := Lib.hid (kb1.out.below hb kb1.out.lt)
      replace gB := Lib.hid (gB.out.trans (hb.mono gB.out.size))
      clear hb
      obtain ⟨tb2, ht⟩ : ∃ t, t = x5.heap.size := ⟨_, rfl⟩
      obtain ⟨y5b2, hy5b2⟩ : ∃ W, W = x5.alloc (.cells #[.bool false, .slice none 0 0, .int .i64 0, .bool false, .slice none 0 0, .int .i64 0, .bool false, .slice none 0 0, .int .i64 0, .bool false, .slice none 0 0, .int .i64 0] 27) := ⟨_, rfl⟩
      have hb : Below x5.heap.size x5 y5b2 := by rw [hy5b2]; exact (Below.refl _ _).alloc (Nat.le_refl _) _
      have kb2 : Blk y5b2 x5.heap.size 27 #[.bool false, .slice none 0 0, .int .i64 0, .bool false, .slice none 0 0, .int .i64 0, .bool false, .slice none 0 0, .int .i64 0, .bool false, .slice none 0 0, .int .i64 0] := by rw [hy5b2]; exact Blk.new _ _ _
      rw [← ht] at kb2
      replace kb2 := Lib.hid kb2
      have sy5b2 : x5.heap.size ≤ y5b2.heap.size := hb.size
      replace gT := Lib.hid (Tab.below gT.out hb gT.out.2)
      replace ra := Lib.hid (Recs.more (Recs.below ra.out hb) hb.size)
      replace rb := Lib.hid (Recs.more (Recs.below rb.out hb) hb.size)
      replace kb1 := Lib.hid (kb1.out.below hb kb1.out.lt)
      replace gB := Lib.hid (gB.out.trans (hb.mono gB.out.size))
      clear hb
      go_wp2_with fail
      rw [← hy5b2]
      clear hy5b2
      rw [← ht]
      clear ht
      refine (nclean4 (some ⟨g, 0, none⟩) 8193 y5b2 rb.out).mono ?_
      rintro en x6 ⟨rfl, hb⟩
      have sx6 : y5b2.heap.size ≤ x6.heap.size := hb.size
      replace gT := Lib.hid (Tab.below gT.out hb gT.out.2)
      replace ra := Lib.hid (Recs.more (Recs.below ra.out hb) hb.size)
      replace rb := Lib.hid (Recs.more (Recs.below rb.out hb) hb.size)
      replace kb1 := Lib.hid (kb1.out.below hb kb1.out.lt)
      replace kb2 := Lib.hid (kb2.out.below hb kb2.out.lt)
      replace gB := Lib.hid (gB.out.trans (hb.mono gB.out.size))
      clear hb
      go_wp2_with fail
      refine (nbook8 x6).mono ?_
      rintro en x7 ⟨⟨A9, c9, rfl⟩, hb⟩
      have sx7 : x6.heap.size ≤ x7.heap.size := hb.size
      replace gT := Lib.hid (Tab.below gT.out hb gT.out.2)
      replace ra := Lib.hid (Recs.more (Recs.below ra.out hb) hb.size)
      replace rb := Lib.hid (Recs.more (Recs.below rb.out hb) hb.size)
      replace kb1 := Lib.hid (kb1.out.below hb kb1.out.lt)
      replace kb2 := Lib.hid (kb2.out.below hb kb2.out.lt)
      replace gB := Lib.hid (gB.out.trans (hb.mono gB.out.size))
      clear hb
      go_wp2_with fail
      refine (alive_any x7 gT.out).mono ?_
      rintro en x8 ⟨rfl, hb⟩
      have sx8 : x7.heap.size ≤ x8.heap.size := hb.size
      replace gT := Lib.hid (Tab.below gT.out hb gT.out.2)
      replace ra := Lib.hid (Recs.more (Recs.below ra.out hb) hb.size)
      replace rb := Lib.hid (Recs.more (Recs.below rb.out hb) hb.size)
      replace kb1 := Lib.hid (kb1.out.below hb kb1.out.lt)
      replace kb2 := Lib.hid (kb2.out.below hb kb2.out.lt)
      replace gB := Lib.hid (gB.out.trans (hb.mono gB.out.size))
      clear hb
      go_wp2_with fail
      refine (ncheck8 x8).mono ?_
      rintro en vz ⟨rfl, hb⟩
      replace gB := Lib.hid (gB.out.trans ((((Below.refl x8.heap.size x8).alloc (Nat.le_refl _) _).trans (hb.mono (by rw [World.size_alloc]; omega))).mono gB.out.size))
      go_wp2
      go_ret
      exact ⟨rfl, gB.out⟩
end Go.Proofs.YtmppalgecboeeaaDoor
