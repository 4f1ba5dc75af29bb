/- Door: (*dyad.sum).add of two signs -/
import Derived.Test.YtdmjdpaehnhdoaaDoorDE
namespace Go.Proofs.YtdmjdpaehnhdoaaDoor
open Go.ChangeShapes Go.WideShapes Go.ChangeAt Go.RowKit
set_option linter.unusedSimpArgs false
set_option linter.unusedVariables false
theorem Blk.setCells {g : Nat} {t : TypeId} : ∀ (vs : List Value) (o : Nat) (w : World) (cs : Array Value), Blk w g t cs → ∃ ds : Array Value, Blk (w.setCells g o vs) g t ds ∧ ds.size = cs.size ∧ ∀ i, ds[i]? = if o ≤ i ∧ i < o + vs.length ∧ i < cs.size then vs[i - o]? else cs[i]?
  | [], o, w, cs, h => ⟨cs, h, rfl, fun i => by rw [if_neg (by simp; omega)]⟩
  | v :: r, o, w, cs, h => by
    obtain ⟨ds, h1, h2, h3⟩ := Blk.setCells r (o + 1) _ _ (h.set_ o v)
    refine ⟨ds, by rw [World.setCells]; exact h1, by rw [h2, Array.size_setIfInBounds], fun i => ?_⟩
    rw [h3, Array.size_setIfInBounds, Array.getElem?_setIfInBounds]
    simp only [List.length_cons]
    by_cases h0 : o = i
    · subst h0
      rw [if_neg (by omega), if_pos rfl]
      by_cases hs : o < cs.size
      · rw [if_pos hs, if_pos (by omega)]; simp
      · rw [if_neg hs, if_neg (by omega), Array.getElem?_eq_none (by omega)]
    · rw [if_neg h0]
      by_cases h4 : o + 1 ≤ i ∧ i < o + 1 + r.length ∧ i < cs.size
      · rw [if_pos h4, if_pos (by omega), show i - o = (i - (o + 1)) + 1 by omega, List.getElem?_cons_succ]
      · rw [if_neg h4, if_neg (by omega)]
theorem Blk.farCells {g b : Nat} {t : TypeId} (hb : g ≠ b) : ∀ (vs : List Value) (o : Nat) (w : World) (cs : Array Value), Blk w g t cs → Blk (w.setCells b o vs) g t cs
  | [], _, _, _, h => h
  | v :: r, o, w, cs, h => by rw [World.setCells]; exact Blk.farCells hb r (o + 1) _ _ (h.far (p := ⟨b, o, none⟩) hb v)
theorem below_setCells {B b : Nat} {w0 : World} (hb : B ≤ b) : ∀ (vs : List Value) (o : Nat) (w : World), Below B w0 w → Below B w0 (w.setCells b o vs)
  | [], _, _, h => h
  | v :: r, o, w, h => by rw [World.setCells]; exact below_setCells hb r (o + 1) _ (h.setCell (p := ⟨b, o, none⟩) hb v)
theorem Blk.there {w : World} {g o n : Nat} {t : TypeId} {cs : Array Value} (h : Blk w g t cs) (hn : o + n ≤ cs.size) : w.there g o n := fun j hj => ⟨by rw [h.cell, Array.getElem?_eq_getElem (by omega)]; rfl, h.frozen _⟩
theorem step_load_mid {P : Program} {ops : Array Oper} {o : Oper} {a : Act} {w : World} {K : Act → World → Prop} {Q : Exit → Act → World → Prop} {E : Prop} (hgd : o.guard = none) (d0 : Option Tmp) (hd0 : o.dst = d0) (ty : TypeId) (x : Operand) (ho : o.op = .load ty x)
    (b i : Nat) (hx : a.eval x = .pointer (some ⟨b, i, none⟩)) (cs : List Value) (d : TypeDesc) (hc : w.rangeAt b i cs) (hu : P.underlying ty = some d) (hd : d.isRow = true) (hi : (P.info? ty).map (·.size) = some cs.length)
    (h : K (a.put d0 (.agg cs.toArray)) w) : if Region.wanted o (yielded ops a.tmps) = true then Oper.wp P o a w K Q else E := by
  have hw : Region.wanted o (yielded ops a.tmps) = true := by simp [Region.wanted, hgd]
  rw [if_pos hw]
  subst hd0
  exact wp_load_mid ty x ho b i hx cs d hc hu hd hi h
theorem step_store_mid {P : Program} {ops : Array Oper} {o : Oper} {a : Act} {w : World} {K : Act → World → Prop} {Q : Exit → Act → World → Prop} {E : Prop} (hgd : o.guard = none) (hd0 : o.dst = none) (ty : TypeId) (x y : Operand) (ho : o.op = .store ty x y)
    (b i : Nat) (cells : Array Value) (hx : a.eval x = .pointer (some ⟨b, i, none⟩)) (hy : a.eval y = .agg cells) (ht : w.there b i cells.size) (hi : (P.info? ty).map (·.size) = some cells.size) (h1 : cells.all (·.oneCell') = true)
    (h : K (a.put none undef) (w.setCells b i cells.toList)) : if Region.wanted o (yielded ops a.tmps) = true then Oper.wp P o a w K Q else E := by
  have hw : Region.wanted o (yielded ops a.tmps) = true := by simp [Region.wanted, hgd]
  rw [if_pos hw]
  rw [← hd0] at h
  exact wp_store_mid ty x y ho b i cells hx hy ht hi h1 h
/-- A sum's limbs are laid anew. -/
theorem sum_row {w : World} {g : Nat} {sn : Bool} {e : Int} {a b : List Nat} (ha : a.length = 74) (hb : b.length = 74) (h : Blk w g 128 (sumC sn e a)) : Blk (w.setCells g 3 (ints .u32 b)) g 128 (sumC sn e b) := by
  obtain ⟨ds, h1, h2, h3⟩ := Blk.setCells (ints .u32 b) 3 w _ h
  have : ds = sumC sn e b := by
    apply Array.ext_getElem?
    intro i
    have hl : (ints .u32 b).length = 74 := by simp [hb]
    rw [h3, hl, sum_size, ha]
    by_cases hi : 3 ≤ i
    · by_cases h7 : i < 77
      · rw [if_pos (by omega), show i = 3 + (i - 3) by omega, sum_at sn e (by omega), show 3 + (i - 3) - 3 = i - 3 by omega]
        exact ints_at .u32 (by omega)
      · rw [if_neg (by omega), Array.getElem?_eq_none (by rw [sum_size]; omega), Array.getElem?_eq_none (by rw [sum_size]; omega)]
    · rw [if_neg (by omega)]
      unfold sumC
      rw [Array.getElem?_append_left (by simp; omega), Array.getElem?_append_left (by simp; omega)]
  rw [← this]
  exact h1
theorem row_row {w : World} {g : Nat} {t : TypeId} {cs : Array Value} {b : List Value} (hc : cs.size = b.length) (h : Blk w g t cs) : Blk (w.setCells g 0 b) g t b.toArray := by
  obtain ⟨ds, h1, h2, h3⟩ := Blk.setCells b 0 w _ h
  have : ds = b.toArray := by
    apply Array.ext_getElem?
    intro i
    rw [h3]
    by_cases hi : i < cs.size
    · rw [if_pos (by omega)]; simp
    · rw [if_neg (by omega), Array.getElem?_eq_none (by omega), Array.getElem?_eq_none (by simp; omega)]
  rw [← this]
  exact h1
set_option maxRecDepth 100000 in
set_option maxHeartbeats 8000000 in
theorem addu_ge (g : Nat) (sn : Bool) (e : Int) (a b : List Nat) (hn : a.length = 74) (hn2 : b.length = 74) (ha : ∀ x ∈ a, x < 4294967296) (hb : ∀ x ∈ b, x < 4294967296) (w : World) (k : Blk w g 128 (sumC sn e a)) (hRr : decide (val 4294967296 a < val 4294967296 b) = false) :
    Calls Tryd.prog 78 #[.pointer (some ⟨g, 0, none⟩), .bool (!sn), .agg (ints .u32 b).toArray] w (AddP g sn e (val 4294967296 a - val 4294967296 b) w) := by
  obtain ⟨V, hV⟩ : ∃ V, V = w.alloc (.cells (ints .u32 b).toArray 108) := ⟨_, rfl⟩
  have hB0 : Below g w V := by rw [hV]; exact (Below.refl _ _).alloc (Nat.le_of_lt k.lt) _
  have k0 : Blk V g 128 (sumC sn e a) := by rw [hV]; exact k.alloc _
  have kx0 : Blk V w.heap.size 108 (ints .u32 b).toArray := by rw [hV]; exact Blk.new w _ _
  have hgx : g < w.heap.size := k.lt
  have c0 : V.cell? ⟨g, 0, none⟩ = some (.bool sn) := by rw [k0.cell]; exact sum_neg sn e a
  have tb : ((!sn) == sn) = false := by cases sn <;> rfl
  obtain ⟨X, hX⟩ : ∃ X, (ints .u32 b).toArray = X := ⟨_, rfl⟩
  have hXc : ∀ i, i < 74 → X[i]? = some (.int .u32 ((b.getD i 0 : Nat) : Int)) := fun i hi => by rw [← hX]; simp only [List.getElem?_toArray]; exact ints_at .u32 (by omega)
  have gX := Lib.hid hX
  rw [hX] at kx0 hV ⊢
  clear hX
  obtain ⟨nb, hnb⟩ : ∃ nb, (!sn) = nb := ⟨_, rfl⟩
  rw [hnb] at tb ⊢
  have gnb := Lib.hid hnb
  clear hnb
  have gR := Lib.hid hRr
  have hbl := below_any g 3 w.heap.size a b hn hn2 ha hb V (fun i hi => by rw [k0.cell, sum_at sn e (by rw [hn]; exact hi)]) (fun i hi => by rw [kx0.cell, hXc i hi]) false hRr
  clear hRr
  go_enter Tryd.func78, Tryd.ntmps78
  go_upto_region 1 with (fail)
  rw [← hV]
  clear hV k
  go_wp2
  refine wp_scope_jumps 0 (fun a' w' => w' = V ∧ ∃ u9 u10 u11 u12 u13 u14 u15, a' = { tmps := #[.pointer (some ⟨g, 0, none⟩), .bool nb, .agg X, undef, undef, .pointer (some ⟨w.heap.size, 0, none⟩), .int .u32 0, undef, undef, u9, u10, u11, u12, u13, u14, u15] ++ #[undef, undef, undef, undef, undef, undef, undef, undef, undef, undef, undef, undef, undef, undef, undef, undef, undef, undef, undef, undef, undef, undef, undef, undef, undef, undef, undef, undef, undef, undef, undef, undef, undef, undef, undef, undef, undef, undef, undef, undef, undef, undef, undef, undef, undef, undef, undef, undef, undef, undef, undef, undef, undef, undef, undef, undef, undef, undef, undef, undef, undef, undef, undef], defers := [] }) (fun _ _ => 0) rfl ?_ ?_
  · go_wp2
    go_step3
    refine ⟨rfl, rfl, .bool nb, .pointer (some ⟨g, 0, none⟩), .pointer (some ⟨g, 0, none⟩), .pointer (some ⟨g, 0, none⟩), .pointer (some ⟨g, 0, none⟩), .bool sn, .bool true, ?_⟩
    simp only [List.append_toArray, List.cons_append, List.nil_append]
  · rintro a' w' ⟨rfl, u9, u10, u11, u12, u13, u14, u15, rfl⟩
    simp only [List.append_toArray, List.cons_append, List.nil_append]
    clear c0 tb
    go_wp2_with fail
    refine hbl.mono ?_
    rintro en w2 ⟨rfl, m, rfl⟩
    have k2 : Blk (w'.drewN m) g 128 (sumC sn e a) := k0
    have kx2 : Blk (w'.drewN m) w.heap.size 108 X := kx0
    have hB2 : Below g w (w'.drewN m) := below_drewN hB0 m
    clear hbl k0 kx0 hB0
    generalize w'.drewN m = W2 at *
    have gle := Lib.hid (Nat.le_of_not_lt (of_decide_eq_false gR.out))
    obtain ⟨X1, hX1e⟩ : ∃ X1, X = X1 := ⟨_, rfl⟩
    have hX1 := hXc
    rw [hX1e] at hX1 kx2
    have gA := Lib.hid hn
    have gAb := Lib.hid ha
    have gBl := Lib.hid hn2
    have gBb := Lib.hid hb
    clear hX1e hXc gX gR gnb hn hn2 ha hb
    have xs : ∀ i, i < 74 → X1[i]? = some (.int .u32 ((b.getD i 0 : Nat) : Int)) := hX1
    go_wp2
    go_loopw [6, 56] (fun cy i wr => ∃ (j q : Nat) (N : List Nat), j ≤ 74 ∧ i = .int .i64 (j : Int) ∧ cy = .int .u32 (q : Int) ∧ q ≤ 1 ∧ Hid (N.length = 74) ∧ Hid (∀ x ∈ N, x < 4294967296) ∧ Hid (∀ i, j ≤ i → N.getD i 0 = a.getD i 0) ∧ Hid (pre 4294967296 a j + 4294967296 ^ j * q = pre 4294967296 N j + pre 4294967296 b j) ∧ Blk wr g 128 (sumC sn e N) ∧ Blk wr w.heap.size 108 X1 ∧ Below g w wr) (fun _ i _ => 74 - (intOf i).toNat)
    case atStart => exact ⟨0, 0, a, Nat.zero_le _, rfl, rfl, by omega, Lib.hid gA.out, Lib.hid gAb.out, Lib.hid (fun i _ => rfl), Lib.hid rfl, k2, kx2, hB2⟩
    case round =>
      clear k2 kx2 hB2
      obtain ⟨j, q, N, hj, rfl, rfl, hq, hNl, hNb, hNa, hv, hK, hKx, hB⟩ := hrel
      by_cases hlt : j < 74
      · have xa := getD_lt (B := 4294967296) (by omega) gAb.out j
        have xb := getD_lt (B := 4294967296) (by omega) gBb.out j
        have va := pre_succ 4294967296 a j
        have vb := pre_succ 4294967296 b j
        have zc : wr.cell? ⟨g, 3 + j, none⟩ = some (.int .u32 ((a.getD j 0 : Nat) : Int)) := by rw [hK.cell, sum_at sn e (by rw [hNl.out]; exact hlt), hNa.out j (Nat.le_refl _)]
        have zy : wr.cell? ⟨w.heap.size, j, none⟩ = some (.int .u32 ((b.getD j 0 : Nat) : Int)) := by rw [hKx.cell, xs j hlt]
        have zf := hK.frozen (3 + j)
        have zl := hK.lt
        obtain ⟨x, hx⟩ : ∃ x, a.getD j 0 = x := ⟨_, rfl⟩
        obtain ⟨y, hy⟩ : ∃ y, b.getD j 0 = y := ⟨_, rfl⟩
        rw [hx] at va xa zc
        rw [hy] at vb xb zy
        obtain ⟨d, hd⟩ : ∃ d, (x + 4294967296 - y - q) % 4294967296 = d := ⟨_, rfl⟩
        obtain ⟨r, hr⟩ : ∃ r, (if x < y + q then 1 else 0 : Nat) = r := ⟨_, rfl⟩
        have hsub := fun w => sub32 x y q xa xb hq w
        simp only [hd, hr] at hsub
        have hr1 : r ≤ 1 := by rw [← hr]; split <;> omega
        have he : x + 4294967296 * r = d + y + q := by rw [← hr, ← hd]; split <;> omega
        have hdl : d < 4294967296 := by rw [← hd]; exact Nat.mod_lt _ (by omega)
        have hv' : Hid (pre 4294967296 a (j + 1) + 4294967296 ^ (j + 1) * r = pre 4294967296 (N.set j d) (j + 1) + pre 4294967296 b (j + 1)) := Lib.hid (by
          rw [va, vb, pre_set_at (by rw [hNl.out]; exact hlt)]
          exact less_step he hv.out)
        have hNb' : Hid (∀ z ∈ N.set j d, z < 4294967296) := Lib.hid (by
          intro z hz
          rcases List.mem_or_eq_of_mem_set hz with h | h
          · exact hNb.out z h
          · omega)
        have hNl' : Hid ((N.set j d).length = 74) := Lib.hid (by rw [List.length_set]; exact hNl.out)
        have hNa' : Hid (∀ i, j + 1 ≤ i → (N.set j d).getD i 0 = a.getD i 0) := Lib.hid (fun i hi => by
          rw [List.getD_eq_getElem?_getD, List.getElem?_set, if_neg (by omega), ← List.getD_eq_getElem?_getD]
          exact hNa.out i (by omega))
        have hK' := hK.set_ (3 + j) (.int .u32 (d : Int))
        rw [sum_set] at hK'
        have hKx' := hKx.far (p := ⟨g, 3 + j, none⟩) (by show w.heap.size ≠ g; omega) (.int .u32 (d : Int))
        have hB' := hB.setCell (p := ⟨g, 3 + j, none⟩) (Nat.le_refl _) (.int .u32 (d : Int))
        have zyb : (wr.setCell ⟨g, 3 + j, none⟩ (.int .u32 (d : Int))).cell? ⟨w.heap.size, j, none⟩ = some (.int .u32 (y : Int)) := by rw [hKx'.cell, xs j hlt, hy]
        have i1 : (0 : Int) ≤ j := by omega
        have i2 : (j : Int) < 74 := by omega
        clear hx hy va vb hv hNl hNb hNa hd hr hK hKx hB he xs gA gAb gBb gle
        go_wp2_with fail
        refine wp_region_noPanic ?_
        refine wp_region_held_drew (S := fun w' => w'.cell? ⟨w.heap.size, j, none⟩ = some (.int .u32 (y : Int))) (by kernel_rfl) (zy) (fun hHeld => ?_)
        refine wpAnyH_take (i := 0) (oi := ?o0_1) (v := ?v0_1) ?ho0_1 (by kernel_rfl) (by kernel_rfl) (by kernel_rfl) (fun _ _ _ h => h) (Or.inl ⟨?wn0_1, ?yn0_1⟩) (by assumption) ?rest0_1
        case ho0_1 => (simp only [List.getElem?_toArray, List.getElem?_cons_zero, List.getElem?_cons_succ]; rfl)
        case wn0_1 => rfl
        case yn0_1 => (intro w hSw; (try dsimp only at hSw); go_simp; (try with_reducible rfl))
        (try simp only [Act.put, List.setIfInBounds_toArray, List.set_cons_zero, List.set_cons_succ])
        refine wpAnyH_take (i := 1) (oi := ?o1_2) (v := ?v1_2) ?ho1_2 (by kernel_rfl) (by kernel_rfl) (by kernel_rfl) (fun _ _ _ h => h) (Or.inl ⟨?wn1_2, ?yn1_2⟩) (by assumption) ?rest1_2
        case ho1_2 => (simp only [List.getElem?_toArray, List.getElem?_cons_zero, List.getElem?_cons_succ]; rfl)
        case wn1_2 => rfl
        case yn1_2 => (intro w hSw; (try dsimp only at hSw); go_simp; (try with_reducible rfl))
        (try simp only [Act.put, List.setIfInBounds_toArray, List.set_cons_zero, List.set_cons_succ])
        refine wpAnyH_take (i := 2) (oi := ?o2_3) (v := ?v2_3) ?ho2_3 (by kernel_rfl) (by kernel_rfl) (by kernel_rfl) (fun _ _ _ h => h) (Or.inl ⟨?wn2_3, ?yn2_3⟩) (by assumption) ?rest2_3
        case ho2_3 => (simp only [List.getElem?_toArray, List.getElem?_cons_zero, List.getElem?_cons_succ]; rfl)
        case wn2_3 => rfl
        case yn2_3 => (intro w hSw; (try dsimp only at hSw); go_simp; (try with_reducible rfl))
        (try simp only [Act.put, List.setIfInBounds_toArray, List.set_cons_zero, List.set_cons_succ])
        refine wpAnyH_take (i := 3) (oi := ?o3_4) (v := ?v3_4) ?ho3_4 (by kernel_rfl) (by kernel_rfl) (by kernel_rfl) (fun _ _ _ h => h) (Or.inl ⟨?wn3_4, ?yn3_4⟩) (by assumption) ?rest3_4
        case ho3_4 => (simp only [List.getElem?_toArray, List.getElem?_cons_zero, List.getElem?_cons_succ]; rfl)
        case wn3_4 => rfl
        case yn3_4 => (intro w hSw; (try dsimp only at hSw); go_simp; (try with_reducible rfl))
        (try simp only [Act.put, List.setIfInBounds_toArray, List.set_cons_zero, List.set_cons_succ])
        refine wpAnyH_take (i := 4) (oi := ?o4_5) (v := ?v4_5) ?ho4_5 (by kernel_rfl) (by kernel_rfl) (by kernel_rfl) (fun _ _ _ h => h) (Or.inl ⟨?wn4_5, ?yn4_5⟩) (by assumption) ?rest4_5
        case ho4_5 => (simp only [List.getElem?_toArray, List.getElem?_cons_zero, List.getElem?_cons_succ]; rfl)
        case wn4_5 => rfl
        case yn4_5 => (intro w hSw; (try dsimp only at hSw); go_simp; (try with_reducible rfl))
        (try simp only [Act.put, List.setIfInBounds_toArray, List.set_cons_zero, List.set_cons_succ])
        refine wpAnyH_take (i := 5) (oi := ?o5_6) (v := ?v5_6) ?ho5_6 (by kernel_rfl) (by kernel_rfl) (by kernel_rfl) (fun _ _ _ h => h) (Or.inl ⟨?wn5_6, ?yn5_6⟩) (by assumption) ?rest5_6
        case ho5_6 => (simp only [List.getElem?_toArray, List.getElem?_cons_zero, List.getElem?_cons_succ]; rfl)
        case wn5_6 => rfl
        case yn5_6 => (intro w hSw; (try dsimp only at hSw); go_simp; (try with_reducible rfl))
        (try simp only [Act.put, List.setIfInBounds_toArray, List.set_cons_zero, List.set_cons_succ])
        refine wpAnyH_take (i := 6) (oi := ?o6_7) (v := ?v6_7) ?ho6_7 (by kernel_rfl) (by kernel_rfl) (by kernel_rfl) (fun _ _ _ h => h) (Or.inl ⟨?wn6_7, ?yn6_7⟩) (by assumption) ?rest6_7
        case ho6_7 => (simp only [List.getElem?_toArray, List.getElem?_cons_zero, List.getElem?_cons_succ]; rfl)
        case wn6_7 => rfl
        case yn6_7 => (intro w hSw; (try dsimp only at hSw); go_simp; (try with_reducible rfl))
        (try simp only [Act.put, List.setIfInBounds_toArray, List.set_cons_zero, List.set_cons_succ])
        refine wpAnyH_take (i := 8) (oi := ?o8_8) (v := ?v8_8) ?ho8_8 (by kernel_rfl) (by kernel_rfl) (by kernel_rfl) (fun _ _ _ h => h) (Or.inl ⟨?wn8_8, ?yn8_8⟩) (by assumption) ?rest8_8
        case ho8_8 => (simp only [List.getElem?_toArray, List.getElem?_cons_zero, List.getElem?_cons_succ]; rfl)
        case wn8_8 => rfl
        case yn8_8 => (intro w hSw; (try dsimp only at hSw); go_simp; (try with_reducible rfl))
        (try simp only [Act.put, List.setIfInBounds_toArray, List.set_cons_zero, List.set_cons_succ])
        refine wpAnyH_take (i := 9) (oi := ?o9_9) (v := ?v9_9) ?ho9_9 (by kernel_rfl) (by kernel_rfl) (by kernel_rfl) (fun _ _ _ h => h) (Or.inl ⟨?wn9_9, ?yn9_9⟩) (by assumption) ?rest9_9
        case ho9_9 => (simp only [List.getElem?_toArray, List.getElem?_cons_zero, List.getElem?_cons_succ]; rfl)
        case wn9_9 => rfl
        case yn9_9 => (intro w hSw; (try dsimp only at hSw); go_simp; (try with_reducible rfl))
        (try simp only [Act.put, List.setIfInBounds_toArray, List.set_cons_zero, List.set_cons_succ])
        refine wpAnyH_take (i := 10) (oi := ?o10_10) (v := ?v10_10) ?ho10_10 (by kernel_rfl) (by kernel_rfl) (by kernel_rfl) (fun _ _ _ h => h) (Or.inl ⟨?wn10_10, ?yn10_10⟩) (by assumption) ?rest10_10
        case ho10_10 => (simp only [List.getElem?_toArray, List.getElem?_cons_zero, List.getElem?_cons_succ]; rfl)
        case wn10_10 => rfl
        case yn10_10 => (intro w hSw; (try dsimp only at hSw); go_simp; (try with_reducible rfl))
        (try simp only [Act.put, List.setIfInBounds_toArray, List.set_cons_zero, List.set_cons_succ])
        refine wpAnyH_take (i := 11) (oi := ?o11_11) (v := ?v11_11) ?ho11_11 (by kernel_rfl) (by kernel_rfl) (by kernel_rfl) (fun _ _ _ h => h) (Or.inl ⟨?wn11_11, ?yn11_11⟩) (by assumption) ?rest11_11
        case ho11_11 => (simp only [List.getElem?_toArray, List.getElem?_cons_zero, List.getElem?_cons_succ]; rfl)
        case wn11_11 => rfl
        case yn11_11 => (intro w hSw; (try dsimp only at hSw); go_simp; (try with_reducible rfl))
        (try simp only [Act.put, List.setIfInBounds_toArray, List.set_cons_zero, List.set_cons_succ])
        refine wpAnyH_take (i := 16) (oi := ?o16_12) (v := ?v16_12) ?ho16_12 (by kernel_rfl) (by kernel_rfl) (by kernel_rfl) (fun _ _ _ h => h) (Or.inl ⟨?wn16_12, ?yn16_12⟩) (by assumption) ?rest16_12
        case ho16_12 => (simp only [List.getElem?_toArray, List.getElem?_cons_zero, List.getElem?_cons_succ]; rfl)
        case wn16_12 => rfl
        case yn16_12 => (intro w hSw; (try dsimp only at hSw); go_simp; (try with_reducible rfl))
        (try simp only [Act.put, List.setIfInBounds_toArray, List.set_cons_zero, List.set_cons_succ])
        refine wpAnyH_take (i := 17) (oi := ?o17_13) (v := ?v17_13) ?ho17_13 (by kernel_rfl) (by kernel_rfl) (by kernel_rfl) (fun _ _ _ h => h) (Or.inl ⟨?wn17_13, ?yn17_13⟩) (by assumption) ?rest17_13
        case ho17_13 => (simp only [List.getElem?_toArray, List.getElem?_cons_zero, List.getElem?_cons_succ]; rfl)
        case wn17_13 => rfl
        case yn17_13 => (intro w hSw; (try dsimp only at hSw); go_simp; (try with_reducible rfl))
        (try simp only [Act.put, List.setIfInBounds_toArray, List.set_cons_zero, List.set_cons_succ])
        refine wpAnyH_ready (rs := [7]) (by kernel_rfl) (by simp) ?_
        refine AllReadyH.cons (o := ?o7_14) ?ho7_14 (fun K hK => ?rest7_14) AllReadyH.nil
        case ho7_14 => (simp only [List.getElem?_toArray, List.getElem?_cons_zero, List.getElem?_cons_succ]; rfl)
        go_simp
        refine hK.out _ _ (zy) (fun hHeld => ?_)
        clear hK K
        (try simp only [Act.put, List.setIfInBounds_toArray, List.set_cons_zero, List.set_cons_succ])
        refine wpAnyH_ready (rs := [12]) (by kernel_rfl) (by simp) ?_
        refine AllReadyH.cons (o := ?o12_15) ?ho12_15 (fun K hK => ?rest12_15) AllReadyH.nil
        case ho12_15 => (simp only [List.getElem?_toArray, List.getElem?_cons_zero, List.getElem?_cons_succ]; rfl)
        go_simp
        with_reducible refine (hsub _).mono ?_
        rintro e w' ⟨rfl, rfl⟩
        refine hK.out _ _ (zy) (fun hHeld => ?_)
        clear hK K
        (try simp only [Act.put, List.setIfInBounds_toArray, List.set_cons_zero, List.set_cons_succ])
        refine wpAnyH_take (i := 13) (oi := ?o13_16) (v := ?v13_16) ?ho13_16 (by kernel_rfl) (by kernel_rfl) (by kernel_rfl) (fun _ _ _ h => h) (Or.inl ⟨?wn13_16, ?yn13_16⟩) (by assumption) ?rest13_16
        case ho13_16 => (simp only [List.getElem?_toArray, List.getElem?_cons_zero, List.getElem?_cons_succ]; rfl)
        case wn13_16 => rfl
        case yn13_16 => (intro w hSw; (try dsimp only at hSw); go_simp; (try with_reducible rfl))
        (try simp only [Act.put, List.setIfInBounds_toArray, List.set_cons_zero, List.set_cons_succ])
        refine wpAnyH_take (i := 14) (oi := ?o14_17) (v := ?v14_17) ?ho14_17 (by kernel_rfl) (by kernel_rfl) (by kernel_rfl) (fun _ _ _ h => h) (Or.inl ⟨?wn14_17, ?yn14_17⟩) (by assumption) ?rest14_17
        case ho14_17 => (simp only [List.getElem?_toArray, List.getElem?_cons_zero, List.getElem?_cons_succ]; rfl)
        case wn14_17 => rfl
        case yn14_17 => (intro w hSw; (try dsimp only at hSw); go_simp; (try with_reducible rfl))
        (try simp only [Act.put, List.setIfInBounds_toArray, List.set_cons_zero, List.set_cons_succ])
        refine wpAnyH_take (i := 15) (oi := ?o15_18) (v := ?v15_18) ?ho15_18 (by kernel_rfl) (by kernel_rfl) (by kernel_rfl) (fun _ _ _ h => h) (Or.inl ⟨?wn15_18, ?yn15_18⟩) (by assumption) ?rest15_18
        case ho15_18 => (simp only [List.getElem?_toArray, List.getElem?_cons_zero, List.getElem?_cons_succ]; rfl)
        case wn15_18 => rfl
        case yn15_18 => (intro w hSw; (try dsimp only at hSw); go_simp; (try with_reducible rfl))
        (try simp only [Act.put, List.setIfInBounds_toArray, List.set_cons_zero, List.set_cons_succ])
        refine wpAnyH_take (i := 18) (oi := ?o18_19) (v := ?v18_19) ?ho18_19 (by kernel_rfl) (by kernel_rfl) (by kernel_rfl) (fun _ _ _ h => h) (Or.inl ⟨?wn18_19, ?yn18_19⟩) (by assumption) ?rest18_19
        case ho18_19 => (simp only [List.getElem?_toArray, List.getElem?_cons_zero, List.getElem?_cons_succ]; rfl)
        case wn18_19 => rfl
        case yn18_19 => (intro w hSw; (try dsimp only at hSw); go_simp; (try with_reducible rfl))
        (try simp only [Act.put, List.setIfInBounds_toArray, List.set_cons_zero, List.set_cons_succ])
        refine wpAnyH_ready (rs := [19]) (by kernel_rfl) (by simp) ?_
        refine AllReadyH.cons (o := ?o19_20) ?ho19_20 (fun K hK => ?rest19_20) AllReadyH.nil
        case ho19_20 => (simp only [List.getElem?_toArray, List.getElem?_cons_zero, List.getElem?_cons_succ]; rfl)
        go_simp
        refine hK.out _ _ (zyb) (fun hHeld => ?_)
        clear hK K
        (try simp only [Act.put, List.setIfInBounds_toArray, List.set_cons_zero, List.set_cons_succ])
        refine wpAnyH_take (i := 20) (oi := ?o20_21) (v := ?v20_21) ?ho20_21 (by kernel_rfl) (by kernel_rfl) (by kernel_rfl) (fun _ _ _ h => h) (Or.inl ⟨?wn20_21, ?yn20_21⟩) (by assumption) ?rest20_21
        case ho20_21 => (simp only [List.getElem?_toArray, List.getElem?_cons_zero, List.getElem?_cons_succ]; rfl)
        case wn20_21 => rfl
        case yn20_21 => (intro w hSw; (try dsimp only at hSw); go_simp; (try with_reducible rfl))
        (try simp only [Act.put, List.setIfInBounds_toArray, List.set_cons_zero, List.set_cons_succ])
        refine wpAnyH_done (by kernel_rfl) ?_ _
        refine NoPanic.normal ?_
        go_wp2
        go_roundw
        case rel => exact ⟨j + 1, r, N.set j d, by omega, by go_num, rfl, hr1, hNl', hNb', hNa', hv', hK'.drew, hKx'.drew, hB'.drew⟩
        case measure => simp [intOf] <;> omega
      · obtain rfl : j = 74 := by omega
        have hv2 := hv.out
        have pN := pre_all 4294967296 N 74 (by rw [hNl.out]; exact Nat.le_refl _)
        have pA := pre_all 4294967296 a 74 (by rw [gA.out]; exact Nat.le_refl _)
        have pB := pre_all 4294967296 b 74 (by rw [gBl.out]; exact Nat.le_refl _)
        rw [pA, pB, pN] at hv2
        have hVN := val_lt hNb.out
        rw [hNl.out] at hVN
        have hle := gle.out
        have q0 : q = 0 := by
          rcases Nat.eq_zero_or_pos q with h | h
          · exact h
          · obtain rfl : q = 1 := by omega
            omega
        subst q0
        have gl := hNl.out
        have gb := hNb.out
        have hv3 : val 4294967296 N = val 4294967296 a - val 4294967296 b := by omega
        clear hNl hNb hNa hv hv2 hVN pN pA pB xs hKx gA gAb gBb gBl gle hle
        go_wp2
        go_end0
        exact ⟨rfl, N, hK, gl, gb, hv3, hB⟩
set_option maxRecDepth 100000 in
set_option maxHeartbeats 8000000 in
theorem addu_lt (g : Nat) (sn : Bool) (e : Int) (a b : List Nat) (hn : a.length = 74) (hn2 : b.length = 74) (ha : ∀ x ∈ a, x < 4294967296) (hb : ∀ x ∈ b, x < 4294967296) (w : World) (k : Blk w g 128 (sumC sn e a)) (hRr : decide (val 4294967296 a < val 4294967296 b) = true) :
    Calls Tryd.prog 78 #[.pointer (some ⟨g, 0, none⟩), .bool (!sn), .agg (ints .u32 b).toArray] w (AddP g (!sn) e (val 4294967296 b - val 4294967296 a) w) := by
  obtain ⟨V, hV⟩ : ∃ V, V = w.alloc (.cells (ints .u32 b).toArray 108) := ⟨_, rfl⟩
  have hB0 : Below g w V := by rw [hV]; exact (Below.refl _ _).alloc (Nat.le_of_lt k.lt) _
  have k0 : Blk V g 128 (sumC sn e a) := by rw [hV]; exact k.alloc _
  have kx0 : Blk V w.heap.size 108 (ints .u32 b).toArray := by rw [hV]; exact Blk.new w _ _
  have hgx : g < w.heap.size := k.lt
  have c0 : V.cell? ⟨g, 0, none⟩ = some (.bool sn) := by rw [k0.cell]; exact sum_neg sn e a
  have tb : ((!sn) == sn) = false := by cases sn <;> rfl
  obtain ⟨X, hX⟩ : ∃ X, (ints .u32 b).toArray = X := ⟨_, rfl⟩
  have hXc : ∀ i, i < 74 → X[i]? = some (.int .u32 ((b.getD i 0 : Nat) : Int)) := fun i hi => by rw [← hX]; simp only [List.getElem?_toArray]; exact ints_at .u32 (by omega)
  have gX := Lib.hid hX
  rw [hX] at kx0 hV ⊢
  clear hX
  obtain ⟨nb, hnb⟩ : ∃ nb, (!sn) = nb := ⟨_, rfl⟩
  rw [hnb] at tb ⊢
  have gnb := Lib.hid hnb
  clear hnb
  have gR := Lib.hid hRr
  have hbl := below_any g 3 w.heap.size a b hn hn2 ha hb V (fun i hi => by rw [k0.cell, sum_at sn e (by rw [hn]; exact hi)]) (fun i hi => by rw [kx0.cell, hXc i hi]) true hRr
  clear hRr
  go_enter Tryd.func78, Tryd.ntmps78
  go_upto_region 1 with (fail)
  rw [← hV]
  clear hV k
  go_wp2
  refine wp_scope_jumps 0 (fun a' w' => w' = V ∧ ∃ u9 u10 u11 u12 u13 u14 u15, a' = { tmps := #[.pointer (some ⟨g, 0, none⟩), .bool nb, .agg X, undef, undef, .pointer (some ⟨w.heap.size, 0, none⟩), .int .u32 0, undef, undef, u9, u10, u11, u12, u13, u14, u15] ++ #[undef, undef, undef, undef, undef, undef, undef, undef, undef, undef, undef, undef, undef, undef, undef, undef, undef, undef, undef, undef, undef, undef, undef, undef, undef, undef, undef, undef, undef, undef, undef, undef, undef, undef, undef, undef, undef, undef, undef, undef, undef, undef, undef, undef, undef, undef, undef, undef, undef, undef, undef, undef, undef, undef, undef, undef, undef, undef, undef, undef, undef, undef, undef], defers := [] }) (fun _ _ => 0) rfl ?_ ?_
  · go_wp2
    go_step3
    refine ⟨rfl, rfl, .bool nb, .pointer (some ⟨g, 0, none⟩), .pointer (some ⟨g, 0, none⟩), .pointer (some ⟨g, 0, none⟩), .pointer (some ⟨g, 0, none⟩), .bool sn, .bool true, ?_⟩
    simp only [List.append_toArray, List.cons_append, List.nil_append]
  · rintro a' w' ⟨rfl, u9, u10, u11, u12, u13, u14, u15, rfl⟩
    simp only [List.append_toArray, List.cons_append, List.nil_append]
    clear c0 tb
    go_wp2_with fail
    refine hbl.mono ?_
    rintro en w2 ⟨rfl, m, rfl⟩
    have k2 : Blk (w'.drewN m) g 128 (sumC sn e a) := k0
    have kx2 : Blk (w'.drewN m) w.heap.size 108 X := kx0
    have hB2 : Below g w (w'.drewN m) := below_drewN hB0 m
    clear hbl k0 kx0 hB0
    generalize w'.drewN m = W2 at *
    have gle := Lib.hid (Nat.le_of_lt (of_decide_eq_true gR.out))
    have hrx : W2.drew.rangeAt w.heap.size 0 X.toList := kx2.drew.range 0 X.toList (by rw [List.drop_zero, List.take_length])
    have hXs : X.size = 74 := by rw [← gX.out, ints_size]; exact hn2
    have hia : (Tryd.prog.info? 108).map (·.size) = some (ints .u32 a).length := by rw [List.length_map, hn]; exact (zero_of_info zeroW).2
    have hix : (Tryd.prog.info? 108).map (·.size) = some X.toList.length := by rw [Array.length_toList, hXs]; exact (zero_of_info zeroW).2
    have hra : W2.drew.rangeAt g 3 (ints .u32 a) := k2.drew.range 3 _ (by unfold sumC; simp [hn]; exact List.take_of_length_le (by simp [hn]))
    have hsx : (Tryd.prog.info? 108).map (·.size) = some X.toList.toArray.size := by rw [List.size_toArray]; exact hix
    have hsa := sizeW hn
    have hoa := ints_oneW .u32 a
    have hox : X.toList.toArray.all (·.oneCell') = true := by rw [Array.toArray_toList, ← gX.out]; exact ints_oneW .u32 b
    have ht1 : W2.drew.there g 3 X.toList.toArray.size := k2.drew.there (by rw [sum_size, hn, Array.toArray_toList, hXs]; exact Nat.le_refl _)
    have hXb : X.toList = ints .u32 b := by rw [← gX.out]
    have kg1 : Blk (W2.drew.setCells g 3 X.toList) g 128 (sumC sn e b) := by rw [hXb]; exact sum_row hn hn2 k2.drew
    have kg2 : Blk ((W2.drew.setCells g 3 X.toList).setCells w.heap.size 0 (ints .u32 a)) g 128 (sumC sn e b) := Blk.farCells (show g ≠ w.heap.size by omega) _ _ _ _ kg1
    have c9 : ((W2.drew.setCells g 3 X.toList).setCells w.heap.size 0 (ints .u32 a)).cell? ⟨g, 0, none⟩ = some (.bool sn) := by rw [kg2.cell]; exact sum_neg sn e b
    have f9 := kg2.frozen 0
    have l9 := kg2.lt
    have ht2 : (W2.drew.setCells g 3 X.toList.toArray.toList).there w.heap.size 0 (ints .u32 a).toArray.size := (Blk.farCells (show w.heap.size ≠ g by omega) _ _ _ _ kx2.drew).there (by rw [ints_size, hn, hXs]; exact Nat.le_refl _)
    clear hXb
    go_wp2_with fail
    refine wp_region_noPanic ?_
    refine wp_region_held_drew (S := fun _ => True) (by kernel_rfl) (trivial) (fun hHeld => ?_)
    refine wpAnyH_take (i := 0) (oi := ?o0_22) (v := ?v0_22) ?ho0_22 (by kernel_rfl) (by kernel_rfl) (by kernel_rfl) (fun _ _ _ h => h) (Or.inl ⟨?wn0_22, ?yn0_22⟩) (by assumption) ?rest0_22
    case ho0_22 => (simp only [List.getElem?_toArray, List.getElem?_cons_zero, List.getElem?_cons_succ]; rfl)
    case wn0_22 => rfl
    case yn0_22 => (intro w hSw; (try dsimp only at hSw); go_simp; (try with_reducible rfl))
    (try simp only [Act.put, List.setIfInBounds_toArray, List.set_cons_zero, List.set_cons_succ])
    refine wpAnyH_take (i := 1) (oi := ?o1_23) (v := ?v1_23) ?ho1_23 (by kernel_rfl) (by kernel_rfl) (by kernel_rfl) (fun _ _ _ h => h) (Or.inl ⟨?wn1_23, ?yn1_23⟩) (by assumption) ?rest1_23
    case ho1_23 => (simp only [List.getElem?_toArray, List.getElem?_cons_zero, List.getElem?_cons_succ]; rfl)
    case wn1_23 => rfl
    case yn1_23 => (intro w hSw; (try dsimp only at hSw); go_simp; (try with_reducible rfl))
    (try simp only [Act.put, List.setIfInBounds_toArray, List.set_cons_zero, List.set_cons_succ])
    refine wpAnyH_take (i := 3) (oi := ?o3_24) (v := ?v3_24) ?ho3_24 (by kernel_rfl) (by kernel_rfl) (by kernel_rfl) (fun _ _ _ h => h) (Or.inl ⟨?wn3_24, ?yn3_24⟩) (by assumption) ?rest3_24
    case ho3_24 => (simp only [List.getElem?_toArray, List.getElem?_cons_zero, List.getElem?_cons_succ]; rfl)
    case wn3_24 => rfl
    case yn3_24 => (intro w hSw; (try dsimp only at hSw); go_simp; (try with_reducible rfl))
    (try simp only [Act.put, List.setIfInBounds_toArray, List.set_cons_zero, List.set_cons_succ])
    refine wpAnyH_take (i := 4) (oi := ?o4_25) (v := ?v4_25) ?ho4_25 (by kernel_rfl) (by kernel_rfl) (by kernel_rfl) (fun _ _ _ h => h) (Or.inl ⟨?wn4_25, ?yn4_25⟩) (by assumption) ?rest4_25
    case ho4_25 => (simp only [List.getElem?_toArray, List.getElem?_cons_zero, List.getElem?_cons_succ]; rfl)
    case wn4_25 => rfl
    case yn4_25 => (intro w hSw; (try dsimp only at hSw); go_simp; (try with_reducible rfl))
    (try simp only [Act.put, List.setIfInBounds_toArray, List.set_cons_zero, List.set_cons_succ])
    refine wpAnyH_take (i := 5) (oi := ?o5_26) (v := ?v5_26) ?ho5_26 (by kernel_rfl) (by kernel_rfl) (by kernel_rfl) (fun _ _ _ h => h) (Or.inl ⟨?wn5_26, ?yn5_26⟩) (by assumption) ?rest5_26
    case ho5_26 => (simp only [List.getElem?_toArray, List.getElem?_cons_zero, List.getElem?_cons_succ]; rfl)
    case wn5_26 => rfl
    case yn5_26 => (intro w hSw; (try dsimp only at hSw); go_simp; (try with_reducible rfl))
    (try simp only [Act.put, List.setIfInBounds_toArray, List.set_cons_zero, List.set_cons_succ])
    refine wpAnyH_take (i := 7) (oi := ?o7_27) (v := ?v7_27) ?ho7_27 (by kernel_rfl) (by kernel_rfl) (by kernel_rfl) (fun _ _ _ h => h) (Or.inl ⟨?wn7_27, ?yn7_27⟩) (by assumption) ?rest7_27
    case ho7_27 => (simp only [List.getElem?_toArray, List.getElem?_cons_zero, List.getElem?_cons_succ]; rfl)
    case wn7_27 => rfl
    case yn7_27 => (intro w hSw; (try dsimp only at hSw); go_simp; (try with_reducible rfl))
    (try simp only [Act.put, List.setIfInBounds_toArray, List.set_cons_zero, List.set_cons_succ])
    refine wpAnyH_ready (rs := [2, 6]) (by kernel_rfl) (by simp) ?_
    refine AllReadyH.cons rfl (fun K hK => ?_) (AllReadyH.cons rfl (fun K hK => ?_) AllReadyH.nil)
    · refine step_load_mid rfl (some 45) rfl 108 (.tmp 5) rfl w.heap.size 0 rfl X.toList _ hrx Tryd.underlying108 rfl hix ?_
      refine hK.out _ _ (trivial) (fun hHeld => ?_)
      clear hK K
      (try simp only [Act.put, List.setIfInBounds_toArray, List.set_cons_zero, List.set_cons_succ])
      refine wpAnyH_ready (rs := [6]) (by kernel_rfl) (by simp) ?_
      refine AllReadyH.cons (o := ?o6_28) ?ho6_28 (fun K hK => ?rest6_28) AllReadyH.nil
      case ho6_28 => (simp only [List.getElem?_toArray, List.getElem?_cons_zero, List.getElem?_cons_succ]; rfl)
      refine step_load_mid rfl (some 49) rfl 108 (.tmp 48) rfl g 3 rfl (ints .u32 a) _ hra Tryd.underlying108 rfl hia ?_
      refine hK.out _ _ (trivial) (fun hHeld => ?_)
      clear hK K
      (try simp only [Act.put, List.setIfInBounds_toArray, List.set_cons_zero, List.set_cons_succ])
      refine wpAnyH_take (i := 8) (oi := ?o8_29) (v := ?v8_29) ?ho8_29 (by kernel_rfl) (by kernel_rfl) (by kernel_rfl) (fun _ _ _ h => h) (Or.inl ⟨?wn8_29, ?yn8_29⟩) (by assumption) ?rest8_29
      case ho8_29 => (simp only [List.getElem?_toArray, List.getElem?_cons_zero, List.getElem?_cons_succ]; rfl)
      case wn8_29 => rfl
      case yn8_29 => (intro w hSw; (try dsimp only at hSw); go_simp; (try with_reducible rfl))
      (try simp only [Act.put, List.setIfInBounds_toArray, List.set_cons_zero, List.set_cons_succ])
      refine wpAnyH_take (i := 9) (oi := ?o9_30) (v := ?v9_30) ?ho9_30 (by kernel_rfl) (by kernel_rfl) (by kernel_rfl) (fun _ _ _ h => h) (Or.inl ⟨?wn9_30, ?yn9_30⟩) (by assumption) ?rest9_30
      case ho9_30 => (simp only [List.getElem?_toArray, List.getElem?_cons_zero, List.getElem?_cons_succ]; rfl)
      case wn9_30 => rfl
      case yn9_30 => (intro w hSw; (try dsimp only at hSw); go_simp; (try with_reducible rfl))
      (try simp only [Act.put, List.setIfInBounds_toArray, List.set_cons_zero, List.set_cons_succ])
      refine wpAnyH_ready (rs := [10]) (by kernel_rfl) (by simp) ?_
      refine AllReadyH.cons (o := ?o10_31) ?ho10_31 (fun K hK => ?rest10_31) AllReadyH.nil
      case ho10_31 => (simp only [List.getElem?_toArray, List.getElem?_cons_zero, List.getElem?_cons_succ]; rfl)
      refine step_store_mid rfl rfl 108 (.tmp 52) (.tmp 45) rfl g 3 X.toList.toArray rfl rfl ht1 hsx hox ?_
      refine hK.out _ _ (trivial) (fun hHeld => ?_)
      clear hK K
      (try simp only [Act.put, List.setIfInBounds_toArray, List.set_cons_zero, List.set_cons_succ])
      refine wpAnyH_ready (rs := [11]) (by kernel_rfl) (by simp) ?_
      refine AllReadyH.cons (o := ?o11_32) ?ho11_32 (fun K hK => ?rest11_32) AllReadyH.nil
      case ho11_32 => (simp only [List.getElem?_toArray, List.getElem?_cons_zero, List.getElem?_cons_succ]; rfl)
      refine step_store_mid rfl rfl 108 (.tmp 5) (.tmp 49) rfl w.heap.size 0 (ints .u32 a).toArray rfl rfl ht2 hsa hoa ?_
      refine hK.out _ _ (trivial) (fun hHeld => ?_)
      clear hK K
      (try simp only [Act.put, List.setIfInBounds_toArray, List.set_cons_zero, List.set_cons_succ])
      refine wpAnyH_take (i := 12) (oi := ?o12_33) (v := ?v12_33) ?ho12_33 (by kernel_rfl) (by kernel_rfl) (by kernel_rfl) (fun _ _ _ h => h) (Or.inl ⟨?wn12_33, ?yn12_33⟩) (by assumption) ?rest12_33
      case ho12_33 => (simp only [List.getElem?_toArray, List.getElem?_cons_zero, List.getElem?_cons_succ]; rfl)
      case wn12_33 => rfl
      case yn12_33 => (intro w hSw; (try dsimp only at hSw); go_simp; (try with_reducible rfl))
      (try simp only [Act.put, List.setIfInBounds_toArray, List.set_cons_zero, List.set_cons_succ])
      refine wpAnyH_take (i := 13) (oi := ?o13_34) (v := ?v13_34) ?ho13_34 (by kernel_rfl) (by kernel_rfl) (by kernel_rfl) (fun _ _ _ h => h) (Or.inl ⟨?wn13_34, ?yn13_34⟩) (by assumption) ?rest13_34
      case ho13_34 => (simp only [List.getElem?_toArray, List.getElem?_cons_zero, List.getElem?_cons_succ]; rfl)
      case wn13_34 => rfl
      case yn13_34 => (intro w hSw; (try dsimp only at hSw); go_simp; (try with_reducible rfl))
      (try simp only [Act.put, List.setIfInBounds_toArray, List.set_cons_zero, List.set_cons_succ])
      refine wpAnyH_take (i := 14) (oi := ?o14_35) (v := ?v14_35) ?ho14_35 (by kernel_rfl) (by kernel_rfl) (by kernel_rfl) (fun _ _ _ h => h) (Or.inl ⟨?wn14_35, ?yn14_35⟩) (by assumption) ?rest14_35
      case ho14_35 => (simp only [List.getElem?_toArray, List.getElem?_cons_zero, List.getElem?_cons_succ]; rfl)
      case wn14_35 => rfl
      case yn14_35 => (intro w hSw; (try dsimp only at hSw); go_simp; (try with_reducible rfl))
      (try simp only [Act.put, List.setIfInBounds_toArray, List.set_cons_zero, List.set_cons_succ])
      refine wpAnyH_ready (rs := [15]) (by kernel_rfl) (by simp) ?_
      refine AllReadyH.cons (o := ?o15_36) ?ho15_36 (fun K hK => ?rest15_36) AllReadyH.nil
      case ho15_36 => (simp only [List.getElem?_toArray, List.getElem?_cons_zero, List.getElem?_cons_succ]; rfl)
      go_simp
      refine hK.out _ _ (trivial) (fun hHeld => ?_)
      clear hK K
      (try simp only [Act.put, List.setIfInBounds_toArray, List.set_cons_zero, List.set_cons_succ])
      refine wpAnyH_done (by kernel_rfl) ?_ _
      refine NoPanic.normal ?_
      obtain ⟨W3, hW3⟩ : ∃ W, W = (((W2.drew.setCells g 3 X.toList).setCells w.heap.size 0 (ints .u32 a)).setCell ⟨g, 0, none⟩ (.bool nb)) := ⟨_, rfl⟩
      have kg3 : Blk W3 g 128 (sumC nb e b) := by rw [hW3]; have h := kg2.set_ 0 (.bool nb); rwa [sum_turn] at h
      have kx3 : Blk W3 w.heap.size 108 (ints .u32 a).toArray := by rw [hW3]; exact (row_row (by rw [List.length_map, hXs, hn]) (Blk.farCells (show w.heap.size ≠ g by omega) _ _ _ _ kx2.drew)).far (p := ⟨g, 0, none⟩) (by show w.heap.size ≠ g; omega) (.bool nb)
      have hB3 : Below g w W3 := by rw [hW3]; exact (below_setCells (Nat.le_of_lt hgx) _ _ _ (below_setCells (Nat.le_refl _) _ _ _ (Below.drew hB2))).setCell (p := ⟨g, 0, none⟩) (Nat.le_refl _) (.bool nb)
      rw [← hW3]
      clear hW3 kg1 kg2 c9 f9 l9 ht1 ht2 hrx hra hix hia hsx hsa hoa hox k2 kx2 hB2 hHeld
      have hX1 : ∀ i, i < 74 → (ints .u32 a).toArray[i]? = some (.int .u32 ((a.getD i 0 : Nat) : Int)) := fun i hi => by simp only [List.getElem?_toArray]; exact ints_at .u32 (by omega)
      obtain ⟨X1, hX1e⟩ : ∃ X1, (ints .u32 a).toArray = X1 := ⟨_, rfl⟩
      rw [hX1e] at hX1 kx3
      have gA := Lib.hid hn2
      have gAb := Lib.hid hb
      have gBl := Lib.hid hn
      have gBb := Lib.hid ha
      clear hX1e hXc gX gR gnb hXs hn hn2 ha hb
      have xs : ∀ i, i < 74 → X1[i]? = some (.int .u32 ((a.getD i 0 : Nat) : Int)) := hX1
      go_wp2
      go_loopw [6, 56] (fun cy i wr => ∃ (j q : Nat) (N : List Nat), j ≤ 74 ∧ i = .int .i64 (j : Int) ∧ cy = .int .u32 (q : Int) ∧ q ≤ 1 ∧ Hid (N.length = 74) ∧ Hid (∀ x ∈ N, x < 4294967296) ∧ Hid (∀ i, j ≤ i → N.getD i 0 = b.getD i 0) ∧ Hid (pre 4294967296 b j + 4294967296 ^ j * q = pre 4294967296 N j + pre 4294967296 a j) ∧ Blk wr g 128 (sumC nb e N) ∧ Blk wr w.heap.size 108 X1 ∧ Below g w wr) (fun _ i _ => 74 - (intOf i).toNat)
      case atStart => exact ⟨0, 0, b, Nat.zero_le _, rfl, rfl, by omega, Lib.hid gA.out, Lib.hid gAb.out, Lib.hid (fun i _ => rfl), Lib.hid rfl, kg3, kx3, hB3⟩
      case round =>
        clear kg3 kx3 hB3
        obtain ⟨j, q, N, hj, rfl, rfl, hq, hNl, hNb, hNa, hv, hK, hKx, hB⟩ := hrel
        by_cases hlt : j < 74
        · have xa := getD_lt (B := 4294967296) (by omega) gAb.out j
          have xb := getD_lt (B := 4294967296) (by omega) gBb.out j
          have va := pre_succ 4294967296 b j
          have vb := pre_succ 4294967296 a j
          have zc : wr.cell? ⟨g, 3 + j, none⟩ = some (.int .u32 ((b.getD j 0 : Nat) : Int)) := by rw [hK.cell, sum_at nb e (by rw [hNl.out]; exact hlt), hNa.out j (Nat.le_refl _)]
          have zy : wr.cell? ⟨w.heap.size, j, none⟩ = some (.int .u32 ((a.getD j 0 : Nat) : Int)) := by rw [hKx.cell, xs j hlt]
          have zf := hK.frozen (3 + j)
          have zl := hK.lt
          obtain ⟨x, hx⟩ : ∃ x, b.getD j 0 = x := ⟨_, rfl⟩
          obtain ⟨y, hy⟩ : ∃ y, a.getD j 0 = y := ⟨_, rfl⟩
          rw [hx] at va xa zc
          rw [hy] at vb xb zy
          obtain ⟨d, hd⟩ : ∃ d, (x + 4294967296 - y - q) % 4294967296 = d := ⟨_, rfl⟩
          obtain ⟨r, hr⟩ : ∃ r, (if x < y + q then 1 else 0 : Nat) = r := ⟨_, rfl⟩
          have hsub := fun w => sub32 x y q xa xb hq w
          simp only [hd, hr] at hsub
          have hr1 : r ≤ 1 := by rw [← hr]; split <;> omega
          have he : x + 4294967296 * r = d + y + q := by rw [← hr, ← hd]; split <;> omega
          have hdl : d < 4294967296 := by rw [← hd]; exact Nat.mod_lt _ (by omega)
          have hv' : Hid (pre 4294967296 b (j + 1) + 4294967296 ^ (j + 1) * r = pre 4294967296 (N.set j d) (j + 1) + pre 4294967296 a (j + 1)) := Lib.hid (by
            rw [va, vb, pre_set_at (by rw [hNl.out]; exact hlt)]
            exact less_step he hv.out)
          have hNb' : Hid (∀ z ∈ N.set j d, z < 4294967296) := Lib.hid (by
            intro z hz
            rcases List.mem_or_eq_of_mem_set hz with h | h
            · exact hNb.out z h
            · omega)
          have hNl' : Hid ((N.set j d).length = 74) := Lib.hid (by rw [List.length_set]; exact hNl.out)
          have hNa' : Hid (∀ i, j + 1 ≤ i → (N.set j d).getD i 0 = b.getD i 0) := Lib.hid (fun i hi => by
            rw [List.getD_eq_getElem?_getD, List.getElem?_set, if_neg (by omega), ← List.getD_eq_getElem?_getD]
            exact hNa.out i (by omega))
          have hK' := hK.set_ (3 + j) (.int .u32 (d : Int))
          rw [sum_set] at hK'
          have hKx' := hKx.far (p := ⟨g, 3 + j, none⟩) (by show w.heap.size ≠ g; omega) (.int .u32 (d : Int))
          have hB' := hB.setCell (p := ⟨g, 3 + j, none⟩) (Nat.le_refl _) (.int .u32 (d : Int))
          have zyb : (wr.setCell ⟨g, 3 + j, none⟩ (.int .u32 (d : Int))).cell? ⟨w.heap.size, j, none⟩ = some (.int .u32 (y : Int)) := by rw [hKx'.cell, xs j hlt, hy]
          have i1 : (0 : Int) ≤ j := by omega
          have i2 : (j : Int) < 74 := by omega
          clear hx hy va vb hv hNl hNb hNa hd hr hK hKx hB he xs gA gAb gBb gle
          go_wp2_with fail
          refine wp_region_noPanic ?_
          refine wp_region_held_drew (S := fun w' => w'.cell? ⟨w.heap.size, j, none⟩ = some (.int .u32 (y : Int))) (by kernel_rfl) (zy) (fun hHeld => ?_)
          refine wpAnyH_take (i := 0) (oi := ?o0_46) (v := ?v0_46) ?ho0_46 (by kernel_rfl) (by kernel_rfl) (by kernel_rfl) (fun _ _ _ h => h) (Or.inl ⟨?wn0_46, ?yn0_46⟩) (by assumption) ?rest0_46
          case ho0_46 => (simp only [List.getElem?_toArray, List.getElem?_cons_zero, List.getElem?_cons_succ]; rfl)
          case wn0_46 => rfl
          case yn0_46 => (intro w hSw; (try dsimp only at hSw); go_simp; (try with_reducible rfl))
          (try simp only [Act.put, List.setIfInBounds_toArray, List.set_cons_zero, List.set_cons_succ])
          refine wpAnyH_take (i := 1) (oi := ?o1_47) (v := ?v1_47) ?ho1_47 (by kernel_rfl) (by kernel_rfl) (by kernel_rfl) (fun _ _ _ h => h) (Or.inl ⟨?wn1_47, ?yn1_47⟩) (by assumption) ?rest1_47
          case ho1_47 => (simp only [List.getElem?_toArray, List.getElem?_cons_zero, List.getElem?_cons_succ]; rfl)
          case wn1_47 => rfl
          case yn1_47 => (intro w hSw; (try dsimp only at hSw); go_simp; (try with_reducible rfl))
          (try simp only [Act.put, List.setIfInBounds_toArray, List.set_cons_zero, List.set_cons_succ])
          refine wpAnyH_take (i := 2) (oi := ?o2_48) (v := ?v2_48) ?ho2_48 (by kernel_rfl) (by kernel_rfl) (by kernel_rfl) (fun _ _ _ h => h) (Or.inl ⟨?wn2_48, ?yn2_48⟩) (by assumption) ?rest2_48
          case ho2_48 => (simp only [List.getElem?_toArray, List.getElem?_cons_zero, List.getElem?_cons_succ]; rfl)
          case wn2_48 => rfl
          case yn2_48 => (intro w hSw; (try dsimp only at hSw); go_simp; (try with_reducible rfl))
          (try simp only [Act.put, List.setIfInBounds_toArray, List.set_cons_zero, List.set_cons_succ])
          refine wpAnyH_take (i := 3) (oi := ?o3_49) (v := ?v3_49) ?ho3_49 (by kernel_rfl) (by kernel_rfl) (by kernel_rfl) (fun _ _ _ h => h) (Or.inl ⟨?wn3_49, ?yn3_49⟩) (by assumption) ?rest3_49
          case ho3_49 => (simp only [List.getElem?_toArray, List.getElem?_cons_zero, List.getElem?_cons_succ]; rfl)
          case wn3_49 => rfl
          case yn3_49 => (intro w hSw; (try dsimp only at hSw); go_simp; (try with_reducible rfl))
          (try simp only [Act.put, List.setIfInBounds_toArray, List.set_cons_zero, List.set_cons_succ])
          refine wpAnyH_take (i := 4) (oi := ?o4_50) (v := ?v4_50) ?ho4_50 (by kernel_rfl) (by kernel_rfl) (by kernel_rfl) (fun _ _ _ h => h) (Or.inl ⟨?wn4_50, ?yn4_50⟩) (by assumption) ?rest4_50
          case ho4_50 => (simp only [List.getElem?_toArray, List.getElem?_cons_zero, List.getElem?_cons_succ]; rfl)
          case wn4_50 => rfl
          case yn4_50 => (intro w hSw; (try dsimp only at hSw); go_simp; (try with_reducible rfl))
          (try simp only [Act.put, List.setIfInBounds_toArray, List.set_cons_zero, List.set_cons_succ])
          refine wpAnyH_take (i := 5) (oi := ?o5_51) (v := ?v5_51) ?ho5_51 (by kernel_rfl) (by kernel_rfl) (by kernel_rfl) (fun _ _ _ h => h) (Or.inl ⟨?wn5_51, ?yn5_51⟩) (by assumption) ?rest5_51
          case ho5_51 => (simp only [List.getElem?_toArray, List.getElem?_cons_zero, List.getElem?_cons_succ]; rfl)
          case wn5_51 => rfl
          case yn5_51 => (intro w hSw; (try dsimp only at hSw); go_simp; (try with_reducible rfl))
          (try simp only [Act.put, List.setIfInBounds_toArray, List.set_cons_zero, List.set_cons_succ])
          refine wpAnyH_take (i := 6) (oi := ?o6_52) (v := ?v6_52) ?ho6_52 (by kernel_rfl) (by kernel_rfl) (by kernel_rfl) (fun _ _ _ h => h) (Or.inl ⟨?wn6_52, ?yn6_52⟩) (by assumption) ?rest6_52
          case ho6_52 => (simp only [List.getElem?_toArray, List.getElem?_cons_zero, List.getElem?_cons_succ]; rfl)
          case wn6_52 => rfl
          case yn6_52 => (intro w hSw; (try dsimp only at hSw); go_simp; (try with_reducible rfl))
          (try simp only [Act.put, List.setIfInBounds_toArray, List.set_cons_zero, List.set_cons_succ])
          refine wpAnyH_take (i := 8) (oi := ?o8_53) (v := ?v8_53) ?ho8_53 (by kernel_rfl) (by kernel_rfl) (by kernel_rfl) (fun _ _ _ h => h) (Or.inl ⟨?wn8_53, ?yn8_53⟩) (by assumption) ?rest8_53
          case ho8_53 => (simp only [List.getElem?_toArray, List.getElem?_cons_zero, List.getElem?_cons_succ]; rfl)
          case wn8_53 => rfl
          case yn8_53 => (intro w hSw; (try dsimp only at hSw); go_simp; (try with_reducible rfl))
          (try simp only [Act.put, List.setIfInBounds_toArray, List.set_cons_zero, List.set_cons_succ])
          refine wpAnyH_take (i := 9) (oi := ?o9_54) (v := ?v9_54) ?ho9_54 (by kernel_rfl) (by kernel_rfl) (by kernel_rfl) (fun _ _ _ h => h) (Or.inl ⟨?wn9_54, ?yn9_54⟩) (by assumption) ?rest9_54
          case ho9_54 => (simp only [List.getElem?_toArray, List.getElem?_cons_zero, List.getElem?_cons_succ]; rfl)
          case wn9_54 => rfl
          case yn9_54 => (intro w hSw; (try dsimp only at hSw); go_simp; (try with_reducible rfl))
          (try simp only [Act.put, List.setIfInBounds_toArray, List.set_cons_zero, List.set_cons_succ])
          refine wpAnyH_take (i := 10) (oi := ?o10_55) (v := ?v10_55) ?ho10_55 (by kernel_rfl) (by kernel_rfl) (by kernel_rfl) (fun _ _ _ h => h) (Or.inl ⟨?wn10_55, ?yn10_55⟩) (by assumption) ?rest10_55
          case ho10_55 => (simp only [List.getElem?_toArray, List.getElem?_cons_zero, List.getElem?_cons_succ]; rfl)
          case wn10_55 => rfl
          case yn10_55 => (intro w hSw; (try dsimp only at hSw); go_simp; (try with_reducible rfl))
          (try simp only [Act.put, List.setIfInBounds_toArray, List.set_cons_zero, List.set_cons_succ])
          refine wpAnyH_take (i := 11) (oi := ?o11_56) (v := ?v11_56) ?ho11_56 (by kernel_rfl) (by kernel_rfl) (by kernel_rfl) (fun _ _ _ h => h) (Or.inl ⟨?wn11_56, ?yn11_56⟩) (by assumption) ?rest11_56
          case ho11_56 => (simp only [List.getElem?_toArray, List.getElem?_cons_zero, List.getElem?_cons_succ]; rfl)
          case wn11_56 => rfl
          case yn11_56 => (intro w hSw; (try dsimp only at hSw); go_simp; (try with_reducible rfl))
          (try simp only [Act.put, List.setIfInBounds_toArray, List.set_cons_zero, List.set_cons_succ])
          refine wpAnyH_take (i := 16) (oi := ?o16_57) (v := ?v16_57) ?ho16_57 (by kernel_rfl) (by kernel_rfl) (by kernel_rfl) (fun _ _ _ h => h) (Or.inl ⟨?wn16_57, ?yn16_57⟩) (by assumption) ?rest16_57
          case ho16_57 => (simp only [List.getElem?_toArray, List.getElem?_cons_zero, List.getElem?_cons_succ]; rfl)
          case wn16_57 => rfl
          case yn16_57 => (intro w hSw; (try dsimp only at hSw); go_simp; (try with_reducible rfl))
          (try simp only [Act.put, List.setIfInBounds_toArray, List.set_cons_zero, List.set_cons_succ])
          refine wpAnyH_take (i := 17) (oi := ?o17_58) (v := ?v17_58) ?ho17_58 (by kernel_rfl) (by kernel_rfl) (by kernel_rfl) (fun _ _ _ h => h) (Or.inl ⟨?wn17_58, ?yn17_58⟩) (by assumption) ?rest17_58
          case ho17_58 => (simp only [List.getElem?_toArray, List.getElem?_cons_zero, List.getElem?_cons_succ]; rfl)
          case wn17_58 => rfl
          case yn17_58 => (intro w hSw; (try dsimp only at hSw); go_simp; (try with_reducible rfl))
          (try simp only [Act.put, List.setIfInBounds_toArray, List.set_cons_zero, List.set_cons_succ])
          refine wpAnyH_ready (rs := [7]) (by kernel_rfl) (by simp) ?_
          refine AllReadyH.cons (o := ?o7_59) ?ho7_59 (fun K hK => ?rest7_59) AllReadyH.nil
          case ho7_59 => (simp only [List.getElem?_toArray, List.getElem?_cons_zero, List.getElem?_cons_succ]; rfl)
          go_simp
          refine hK.out _ _ (zy) (fun hHeld => ?_)
          clear hK K
          (try simp only [Act.put, List.setIfInBounds_toArray, List.set_cons_zero, List.set_cons_succ])
          refine wpAnyH_ready (rs := [12]) (by kernel_rfl) (by simp) ?_
          refine AllReadyH.cons (o := ?o12_60) ?ho12_60 (fun K hK => ?rest12_60) AllReadyH.nil
          case ho12_60 => (simp only [List.getElem?_toArray, List.getElem?_cons_zero, List.getElem?_cons_succ]; rfl)
          go_simp
          with_reducible refine (hsub _).mono ?_
          rintro e w' ⟨rfl, rfl⟩
          refine hK.out _ _ (zy) (fun hHeld => ?_)
          clear hK K
          (try simp only [Act.put, List.setIfInBounds_toArray, List.set_cons_zero, List.set_cons_succ])
          refine wpAnyH_take (i := 13) (oi := ?o13_61) (v := ?v13_61) ?ho13_61 (by kernel_rfl) (by kernel_rfl) (by kernel_rfl) (fun _ _ _ h => h) (Or.inl ⟨?wn13_61, ?yn13_61⟩) (by assumption) ?rest13_61
          case ho13_61 => (simp only [List.getElem?_toArray, List.getElem?_cons_zero, List.getElem?_cons_succ]; rfl)
          case wn13_61 => rfl
          case yn13_61 => (intro w hSw; (try dsimp only at hSw); go_simp; (try with_reducible rfl))
          (try simp only [Act.put, List.setIfInBounds_toArray, List.set_cons_zero, List.set_cons_succ])
          refine wpAnyH_take (i := 14) (oi := ?o14_62) (v := ?v14_62) ?ho14_62 (by kernel_rfl) (by kernel_rfl) (by kernel_rfl) (fun _ _ _ h => h) (Or.inl ⟨?wn14_62, ?yn14_62⟩) (by assumption) ?rest14_62
          case ho14_62 => (simp only [List.getElem?_toArray, List.getElem?_cons_zero, List.getElem?_cons_succ]; rfl)
          case wn14_62 => rfl
          case yn14_62 => (intro w hSw; (try dsimp only at hSw); go_simp; (try with_reducible rfl))
          (try simp only [Act.put, List.setIfInBounds_toArray, List.set_cons_zero, List.set_cons_succ])
          refine wpAnyH_take (i := 15) (oi := ?o15_63) (v := ?v15_63) ?ho15_63 (by kernel_rfl) (by kernel_rfl) (by kernel_rfl) (fun _ _ _ h => h) (Or.inl ⟨?wn15_63, ?yn15_63⟩) (by assumption) ?rest15_63
          case ho15_63 => (simp only [List.getElem?_toArray, List.getElem?_cons_zero, List.getElem?_cons_succ]; rfl)
          case wn15_63 => rfl
          case yn15_63 => (intro w hSw; (try dsimp only at hSw); go_simp; (try with_reducible rfl))
          (try simp only [Act.put, List.setIfInBounds_toArray, List.set_cons_zero, List.set_cons_succ])
          refine wpAnyH_take (i := 18) (oi := ?o18_64) (v := ?v18_64) ?ho18_64 (by kernel_rfl) (by kernel_rfl) (by kernel_rfl) (fun _ _ _ h => h) (Or.inl ⟨?wn18_64, ?yn18_64⟩) (by assumption) ?rest18_64
          case ho18_64 => (simp only [List.getElem?_toArray, List.getElem?_cons_zero, List.getElem?_cons_succ]; rfl)
          case wn18_64 => rfl
          case yn18_64 => (intro w hSw; (try dsimp only at hSw); go_simp; (try with_reducible rfl))
          (try simp only [Act.put, List.setIfInBounds_toArray, List.set_cons_zero, List.set_cons_succ])
          refine wpAnyH_ready (rs := [19]) (by kernel_rfl) (by simp) ?_
          refine AllReadyH.cons (o := ?o19_65) ?ho19_65 (fun K hK => ?rest19_65) AllReadyH.nil
          case ho19_65 => (simp only [List.getElem?_toArray, List.getElem?_cons_zero, List.getElem?_cons_succ]; rfl)
          go_simp
          refine hK.out _ _ (zyb) (fun hHeld => ?_)
          clear hK K
          (try simp only [Act.put, List.setIfInBounds_toArray, List.set_cons_zero, List.set_cons_succ])
          refine wpAnyH_take (i := 20) (oi := ?o20_66) (v := ?v20_66) ?ho20_66 (by kernel_rfl) (by kernel_rfl) (by kernel_rfl) (fun _ _ _ h => h) (Or.inl ⟨?wn20_66, ?yn20_66⟩) (by assumption) ?rest20_66
          case ho20_66 => (simp only [List.getElem?_toArray, List.getElem?_cons_zero, List.getElem?_cons_succ]; rfl)
          case wn20_66 => rfl
          case yn20_66 => (intro w hSw; (try dsimp only at hSw); go_simp; (try with_reducible rfl))
          (try simp only [Act.put, List.setIfInBounds_toArray, List.set_cons_zero, List.set_cons_succ])
          refine wpAnyH_done (by kernel_rfl) ?_ _
          refine NoPanic.normal ?_
          go_wp2
          go_roundw
          case rel => exact ⟨j + 1, r, N.set j d, by omega, by go_num, rfl, hr1, hNl', hNb', hNa', hv', hK'.drew, hKx'.drew, hB'.drew⟩
          case measure => simp [intOf] <;> omega
        · obtain rfl : j = 74 := by omega
          have hv2 := hv.out
          have pN := pre_all 4294967296 N 74 (by rw [hNl.out]; exact Nat.le_refl _)
          have pA := pre_all 4294967296 b 74 (by rw [gA.out]; exact Nat.le_refl _)
          have pB := pre_all 4294967296 a 74 (by rw [gBl.out]; exact Nat.le_refl _)
          rw [pA, pB, pN] at hv2
          have hVN := val_lt hNb.out
          rw [hNl.out] at hVN
          have hle := gle.out
          have q0 : q = 0 := by
            rcases Nat.eq_zero_or_pos q with h | h
            · exact h
            · obtain rfl : q = 1 := by omega
              omega
          subst q0
          have gl := hNl.out
          have gb := hNb.out
          have hv3 : val 4294967296 N = val 4294967296 b - val 4294967296 a := by omega
          clear hNl hNb hNa hv hv2 hVN pN pA pB xs hKx gA gAb gBb gBl gle hle
          go_wp2
          go_end0
          exact ⟨rfl, N, hK, gl, gb, hv3, hB⟩
    · refine step_load_mid rfl (some 49) rfl 108 (.tmp 48) rfl g 3 rfl (ints .u32 a) _ hra Tryd.underlying108 rfl hia ?_
      refine hK.out _ _ (trivial) (fun hHeld => ?_)
      clear hK K
      (try simp only [Act.put, List.setIfInBounds_toArray, List.set_cons_zero, List.set_cons_succ])
      refine wpAnyH_ready (rs := [2]) (by kernel_rfl) (by simp) ?_
      refine AllReadyH.cons (o := ?o2_37) ?ho2_37 (fun K hK => ?rest2_37) AllReadyH.nil
      case ho2_37 => (simp only [List.getElem?_toArray, List.getElem?_cons_zero, List.getElem?_cons_succ]; rfl)
      refine step_load_mid rfl (some 45) rfl 108 (.tmp 5) rfl w.heap.size 0 rfl X.toList _ hrx Tryd.underlying108 rfl hix ?_
      refine hK.out _ _ (trivial) (fun hHeld => ?_)
      clear hK K
      (try simp only [Act.put, List.setIfInBounds_toArray, List.set_cons_zero, List.set_cons_succ])
      refine wpAnyH_take (i := 8) (oi := ?o8_38) (v := ?v8_38) ?ho8_38 (by kernel_rfl) (by kernel_rfl) (by kernel_rfl) (fun _ _ _ h => h) (Or.inl ⟨?wn8_38, ?yn8_38⟩) (by assumption) ?rest8_38
      case ho8_38 => (simp only [List.getElem?_toArray, List.getElem?_cons_zero, List.getElem?_cons_succ]; rfl)
      case wn8_38 => rfl
      case yn8_38 => (intro w hSw; (try dsimp only at hSw); go_simp; (try with_reducible rfl))
      (try simp only [Act.put, List.setIfInBounds_toArray, List.set_cons_zero, List.set_cons_succ])
      refine wpAnyH_take (i := 9) (oi := ?o9_39) (v := ?v9_39) ?ho9_39 (by kernel_rfl) (by kernel_rfl) (by kernel_rfl) (fun _ _ _ h => h) (Or.inl ⟨?wn9_39, ?yn9_39⟩) (by assumption) ?rest9_39
      case ho9_39 => (simp only [List.getElem?_toArray, List.getElem?_cons_zero, List.getElem?_cons_succ]; rfl)
      case wn9_39 => rfl
      case yn9_39 => (intro w hSw; (try dsimp only at hSw); go_simp; (try with_reducible rfl))
      (try simp only [Act.put, List.setIfInBounds_toArray, List.set_cons_zero, List.set_cons_succ])
      refine wpAnyH_ready (rs := [10]) (by kernel_rfl) (by simp) ?_
      refine AllReadyH.cons (o := ?o10_40) ?ho10_40 (fun K hK => ?rest10_40) AllReadyH.nil
      case ho10_40 => (simp only [List.getElem?_toArray, List.getElem?_cons_zero, List.getElem?_cons_succ]; rfl)
      refine step_store_mid rfl rfl 108 (.tmp 52) (.tmp 45) rfl g 3 X.toList.toArray rfl rfl ht1 hsx hox ?_
      refine hK.out _ _ (trivial) (fun hHeld => ?_)
      clear hK K
      (try simp only [Act.put, List.setIfInBounds_toArray, List.set_cons_zero, List.set_cons_succ])
      refine wpAnyH_ready (rs := [11]) (by kernel_rfl) (by simp) ?_
      refine AllReadyH.cons (o := ?o11_41) ?ho11_41 (fun K hK => ?rest11_41) AllReadyH.nil
      case ho11_41 => (simp only [List.getElem?_toArray, List.getElem?_cons_zero, List.getElem?_cons_succ]; rfl)
      refine step_store_mid rfl rfl 108 (.tmp 5) (.tmp 49) rfl w.heap.size 0 (ints .u32 a).toArray rfl rfl ht2 hsa hoa ?_
      refine hK.out _ _ (trivial) (fun hHeld => ?_)
      clear hK K
      (try simp only [Act.put, List.setIfInBounds_toArray, List.set_cons_zero, List.set_cons_succ])
      refine wpAnyH_take (i := 12) (oi := ?o12_42) (v := ?v12_42) ?ho12_42 (by kernel_rfl) (by kernel_rfl) (by kernel_rfl) (fun _ _ _ h => h) (Or.inl ⟨?wn12_42, ?yn12_42⟩) (by assumption) ?rest12_42
      case ho12_42 => (simp only [List.getElem?_toArray, List.getElem?_cons_zero, List.getElem?_cons_succ]; rfl)
      case wn12_42 => rfl
      case yn12_42 => (intro w hSw; (try dsimp only at hSw); go_simp; (try with_reducible rfl))
      (try simp only [Act.put, List.setIfInBounds_toArray, List.set_cons_zero, List.set_cons_succ])
      refine wpAnyH_take (i := 13) (oi := ?o13_43) (v := ?v13_43) ?ho13_43 (by kernel_rfl) (by kernel_rfl) (by kernel_rfl) (fun _ _ _ h => h) (Or.inl ⟨?wn13_43, ?yn13_43⟩) (by assumption) ?rest13_43
      case ho13_43 => (simp only [List.getElem?_toArray, List.getElem?_cons_zero, List.getElem?_cons_succ]; rfl)
      case wn13_43 => rfl
      case yn13_43 => (intro w hSw; (try dsimp only at hSw); go_simp; (try with_reducible rfl))
      (try simp only [Act.put, List.setIfInBounds_toArray, List.set_cons_zero, List.set_cons_succ])
      refine wpAnyH_take (i := 14) (oi := ?o14_44) (v := ?v14_44) ?ho14_44 (by kernel_rfl) (by kernel_rfl) (by kernel_rfl) (fun _ _ _ h => h) (Or.inl ⟨?wn14_44, ?yn14_44⟩) (by assumption) ?rest14_44
      case ho14_44 => (simp only [List.getElem?_toArray, List.getElem?_cons_zero, List.getElem?_cons_succ]; rfl)
      case wn14_44 => rfl
      case yn14_44 => (intro w hSw; (try dsimp only at hSw); go_simp; (try with_reducible rfl))
      (try simp only [Act.put, List.setIfInBounds_toArray, List.set_cons_zero, List.set_cons_succ])
      refine wpAnyH_ready (rs := [15]) (by kernel_rfl) (by simp) ?_
      refine AllReadyH.cons (o := ?o15_45) ?ho15_45 (fun K hK => ?rest15_45) AllReadyH.nil
      case ho15_45 => (simp only [List.getElem?_toArray, List.getElem?_cons_zero, List.getElem?_cons_succ]; rfl)
      go_simp
      refine hK.out _ _ (trivial) (fun hHeld => ?_)
      clear hK K
      (try simp only [Act.put, List.setIfInBounds_toArray, List.set_cons_zero, List.set_cons_succ])
      refine wpAnyH_done (by kernel_rfl) ?_ _
      refine NoPanic.normal ?_
      obtain ⟨W3, hW3⟩ : ∃ W, W = (((W2.drew.setCells g 3 X.toList).setCells w.heap.size 0 (ints .u32 a)).setCell ⟨g, 0, none⟩ (.bool nb)) := ⟨_, rfl⟩
      have kg3 : Blk W3 g 128 (sumC nb e b) := by rw [hW3]; have h := kg2.set_ 0 (.bool nb); rwa [sum_turn] at h
      have kx3 : Blk W3 w.heap.size 108 (ints .u32 a).toArray := by rw [hW3]; exact (row_row (by rw [List.length_map, hXs, hn]) (Blk.farCells (show w.heap.size ≠ g by omega) _ _ _ _ kx2.drew)).far (p := ⟨g, 0, none⟩) (by show w.heap.size ≠ g; omega) (.bool nb)
      have hB3 : Below g w W3 := by rw [hW3]; exact (below_setCells (Nat.le_of_lt hgx) _ _ _ (below_setCells (Nat.le_refl _) _ _ _ (Below.drew hB2))).setCell (p := ⟨g, 0, none⟩) (Nat.le_refl _) (.bool nb)
      rw [← hW3]
      clear hW3 kg1 kg2 c9 f9 l9 ht1 ht2 hrx hra hix hia hsx hsa hoa hox k2 kx2 hB2 hHeld
      have hX1 : ∀ i, i < 74 → (ints .u32 a).toArray[i]? = some (.int .u32 ((a.getD i 0 : Nat) : Int)) := fun i hi => by simp only [List.getElem?_toArray]; exact ints_at .u32 (by omega)
      obtain ⟨X1, hX1e⟩ : ∃ X1, (ints .u32 a).toArray = X1 := ⟨_, rfl⟩
      rw [hX1e] at hX1 kx3
      have gA := Lib.hid hn2
      have gAb := Lib.hid hb
      have gBl := Lib.hid hn
      have gBb := Lib.hid ha
      clear hX1e hXc gX gR gnb hXs hn hn2 ha hb
      have xs : ∀ i, i < 74 → X1[i]? = some (.int .u32 ((a.getD i 0 : Nat) : Int)) := hX1
      go_wp2
      go_loopw [6, 56] (fun cy i wr => ∃ (j q : Nat) (N : List Nat), j ≤ 74 ∧ i = .int .i64 (j : Int) ∧ cy = .int .u32 (q : Int) ∧ q ≤ 1 ∧ Hid (N.length = 74) ∧ Hid (∀ x ∈ N, x < 4294967296) ∧ Hid (∀ i, j ≤ i → N.getD i 0 = b.getD i 0) ∧ Hid (pre 4294967296 b j + 4294967296 ^ j * q = pre 4294967296 N j + pre 4294967296 a j) ∧ Blk wr g 128 (sumC nb e N) ∧ Blk wr w.heap.size 108 X1 ∧ Below g w wr) (fun _ i _ => 74 - (intOf i).toNat)
      case atStart => exact ⟨0, 0, b, Nat.zero_le _, rfl, rfl, by omega, Lib.hid gA.out, Lib.hid gAb.out, Lib.hid (fun i _ => rfl), Lib.hid rfl, kg3, kx3, hB3⟩
      case round =>
        clear kg3 kx3 hB3
        obtain ⟨j, q, N, hj, rfl, rfl, hq, hNl, hNb, hNa, hv, hK, hKx, hB⟩ := hrel
        by_cases hlt : j < 74
        · have xa := getD_lt (B := 4294967296) (by omega) gAb.out j
          have xb := getD_lt (B := 4294967296) (by omega) gBb.out j
          have va := pre_succ 4294967296 b j
          have vb := pre_succ 4294967296 a j
          have zc : wr.cell? ⟨g, 3 + j, none⟩ = some (.int .u32 ((b.getD j 0 : Nat) : Int)) := by rw [hK.cell, sum_at nb e (by rw [hNl.out]; exact hlt), hNa.out j (Nat.le_refl _)]
          have zy : wr.cell? ⟨w.heap.size, j, none⟩ = some (.int .u32 ((a.getD j 0 : Nat) : Int)) := by rw [hKx.cell, xs j hlt]
          have zf := hK.frozen (3 + j)
          have zl := hK.lt
          obtain ⟨x, hx⟩ : ∃ x, b.getD j 0 = x := ⟨_, rfl⟩
          obtain ⟨y, hy⟩ : ∃ y, a.getD j 0 = y := ⟨_, rfl⟩
          rw [hx] at va xa zc
          rw [hy] at vb xb zy
          obtain ⟨d, hd⟩ : ∃ d, (x + 4294967296 - y - q) % 4294967296 = d := ⟨_, rfl⟩
          obtain ⟨r, hr⟩ : ∃ r, (if x < y + q then 1 else 0 : Nat) = r := ⟨_, rfl⟩
          have hsub := fun w => sub32 x y q xa xb hq w
          simp only [hd, hr] at hsub
          have hr1 : r ≤ 1 := by rw [← hr]; split <;> omega
          have he : x + 4294967296 * r = d + y + q := by rw [← hr, ← hd]; split <;> omega
          have hdl : d < 4294967296 := by rw [← hd]; exact Nat.mod_lt _ (by omega)
          have hv' : Hid (pre 4294967296 b (j + 1) + 4294967296 ^ (j + 1) * r = pre 4294967296 (N.set j d) (j + 1) + pre 4294967296 a (j + 1)) := Lib.hid (by
            rw [va, vb, pre_set_at (by rw [hNl.out]; exact hlt)]
            exact less_step he hv.out)
          have hNb' : Hid (∀ z ∈ N.set j d, z < 4294967296) := Lib.hid (by
            intro z hz
            rcases List.mem_or_eq_of_mem_set hz with h | h
            · exact hNb.out z h
            · omega)
          have hNl' : Hid ((N.set j d).length = 74) := Lib.hid (by rw [List.length_set]; exact hNl.out)
          have hNa' : Hid (∀ i, j + 1 ≤ i → (N.set j d).getD i 0 = b.getD i 0) := Lib.hid (fun i hi => by
            rw [List.getD_eq_getElem?_getD, List.getElem?_set, if_neg (by omega), ← List.getD_eq_getElem?_getD]
            exact hNa.out i (by omega))
          have hK' := hK.set_ (3 + j) (.int .u32 (d : Int))
          rw [sum_set] at hK'
          have hKx' := hKx.far (p := ⟨g, 3 + j, none⟩) (by show w.heap.size ≠ g; omega) (.int .u32 (d : Int))
          have hB' := hB.setCell (p := ⟨g, 3 + j, none⟩) (Nat.le_refl _) (.int .u32 (d : Int))
          have zyb : (wr.setCell ⟨g, 3 + j, none⟩ (.int .u32 (d : Int))).cell? ⟨w.heap.size, j, none⟩ = some (.int .u32 (y : Int)) := by rw [hKx'.cell, xs j hlt, hy]
          have i1 : (0 : Int) ≤ j := by omega
          have i2 : (j : Int) < 74 := by omega
          clear hx hy va vb hv hNl hNb hNa hd hr hK hKx hB he xs gA gAb gBb gle
          go_wp2_with fail
          refine wp_region_noPanic ?_
          refine wp_region_held_drew (S := fun w' => w'.cell? ⟨w.heap.size, j, none⟩ = some (.int .u32 (y : Int))) (by kernel_rfl) (zy) (fun hHeld => ?_)
          refine wpAnyH_take (i := 0) (oi := ?o0_67) (v := ?v0_67) ?ho0_67 (by kernel_rfl) (by kernel_rfl) (by kernel_rfl) (fun _ _ _ h => h) (Or.inl ⟨?wn0_67, ?yn0_67⟩) (by assumption) ?rest0_67
          case ho0_67 => (simp only [List.getElem?_toArray, List.getElem?_cons_zero, List.getElem?_cons_succ]; rfl)
          case wn0_67 => rfl
          case yn0_67 => (intro w hSw; (try dsimp only at hSw); go_simp; (try with_reducible rfl))
          (try simp only [Act.put, List.setIfInBounds_toArray, List.set_cons_zero, List.set_cons_succ])
          refine wpAnyH_take (i := 1) (oi := ?o1_68) (v := ?v1_68) ?ho1_68 (by kernel_rfl) (by kernel_rfl) (by kernel_rfl) (fun _ _ _ h => h) (Or.inl ⟨?wn1_68, ?yn1_68⟩) (by assumption) ?rest1_68
          case ho1_68 => (simp only [List.getElem?_toArray, List.getElem?_cons_zero, List.getElem?_cons_succ]; rfl)
          case wn1_68 => rfl
          case yn1_68 => (intro w hSw; (try dsimp only at hSw); go_simp; (try with_reducible rfl))
          (try simp only [Act.put, List.setIfInBounds_toArray, List.set_cons_zero, List.set_cons_succ])
          refine wpAnyH_take (i := 2) (oi := ?o2_69) (v := ?v2_69) ?ho2_69 (by kernel_rfl) (by kernel_rfl) (by kernel_rfl) (fun _ _ _ h => h) (Or.inl ⟨?wn2_69, ?yn2_69⟩) (by assumption) ?rest2_69
          case ho2_69 => (simp only [List.getElem?_toArray, List.getElem?_cons_zero, List.getElem?_cons_succ]; rfl)
          case wn2_69 => rfl
          case yn2_69 => (intro w hSw; (try dsimp only at hSw); go_simp; (try with_reducible rfl))
          (try simp only [Act.put, List.setIfInBounds_toArray, List.set_cons_zero, List.set_cons_succ])
          refine wpAnyH_take (i := 3) (oi := ?o3_70) (v := ?v3_70) ?ho3_70 (by kernel_rfl) (by kernel_rfl) (by kernel_rfl) (fun _ _ _ h => h) (Or.inl ⟨?wn3_70, ?yn3_70⟩) (by assumption) ?rest3_70
          case ho3_70 => (simp only [List.getElem?_toArray, List.getElem?_cons_zero, List.getElem?_cons_succ]; rfl)
          case wn3_70 => rfl
          case yn3_70 => (intro w hSw; (try dsimp only at hSw); go_simp; (try with_reducible rfl))
          (try simp only [Act.put, List.setIfInBounds_toArray, List.set_cons_zero, List.set_cons_succ])
          refine wpAnyH_take (i := 4) (oi := ?o4_71) (v := ?v4_71) ?ho4_71 (by kernel_rfl) (by kernel_rfl) (by kernel_rfl) (fun _ _ _ h => h) (Or.inl ⟨?wn4_71, ?yn4_71⟩) (by assumption) ?rest4_71
          case ho4_71 => (simp only [List.getElem?_toArray, List.getElem?_cons_zero, List.getElem?_cons_succ]; rfl)
          case wn4_71 => rfl
          case yn4_71 => (intro w hSw; (try dsimp only at hSw); go_simp; (try with_reducible rfl))
          (try simp only [Act.put, List.setIfInBounds_toArray, List.set_cons_zero, List.set_cons_succ])
          refine wpAnyH_take (i := 5) (oi := ?o5_72) (v := ?v5_72) ?ho5_72 (by kernel_rfl) (by kernel_rfl) (by kernel_rfl) (fun _ _ _ h => h) (Or.inl ⟨?wn5_72, ?yn5_72⟩) (by assumption) ?rest5_72
          case ho5_72 => (simp only [List.getElem?_toArray, List.getElem?_cons_zero, List.getElem?_cons_succ]; rfl)
          case wn5_72 => rfl
          case yn5_72 => (intro w hSw; (try dsimp only at hSw); go_simp; (try with_reducible rfl))
          (try simp only [Act.put, List.setIfInBounds_toArray, List.set_cons_zero, List.set_cons_succ])
          refine wpAnyH_take (i := 6) (oi := ?o6_73) (v := ?v6_73) ?ho6_73 (by kernel_rfl) (by kernel_rfl) (by kernel_rfl) (fun _ _ _ h => h) (Or.inl ⟨?wn6_73, ?yn6_73⟩) (by assumption) ?rest6_73
          case ho6_73 => (simp only [List.getElem?_toArray, List.getElem?_cons_zero, List.getElem?_cons_succ]; rfl)
          case wn6_73 => rfl
          case yn6_73 => (intro w hSw; (try dsimp only at hSw); go_simp; (try with_reducible rfl))
          (try simp only [Act.put, List.setIfInBounds_toArray, List.set_cons_zero, List.set_cons_succ])
          refine wpAnyH_take (i := 8) (oi := ?o8_74) (v := ?v8_74) ?ho8_74 (by kernel_rfl) (by kernel_rfl) (by kernel_rfl) (fun _ _ _ h => h) (Or.inl ⟨?wn8_74, ?yn8_74⟩) (by assumption) ?rest8_74
          case ho8_74 => (simp only [List.getElem?_toArray, List.getElem?_cons_zero, List.getElem?_cons_succ]; rfl)
          case wn8_74 => rfl
          case yn8_74 => (intro w hSw; (try dsimp only at hSw); go_simp; (try with_reducible rfl))
          (try simp only [Act.put, List.setIfInBounds_toArray, List.set_cons_zero, List.set_cons_succ])
          refine wpAnyH_take (i := 9) (oi := ?o9_75) (v := ?v9_75) ?ho9_75 (by kernel_rfl) (by kernel_rfl) (by kernel_rfl) (fun _ _ _ h => h) (Or.inl ⟨?wn9_75, ?yn9_75⟩) (by assumption) ?rest9_75
          case ho9_75 => (simp only [List.getElem?_toArray, List.getElem?_cons_zero, List.getElem?_cons_succ]; rfl)
          case wn9_75 => rfl
          case yn9_75 => (intro w hSw; (try dsimp only at hSw); go_simp; (try with_reducible rfl))
          (try simp only [Act.put, List.setIfInBounds_toArray, List.set_cons_zero, List.set_cons_succ])
          refine wpAnyH_take (i := 10) (oi := ?o10_76) (v := ?v10_76) ?ho10_76 (by kernel_rfl) (by kernel_rfl) (by kernel_rfl) (fun _ _ _ h => h) (Or.inl ⟨?wn10_76, ?yn10_76⟩) (by assumption) ?rest10_76
          case ho10_76 => (simp only [List.getElem?_toArray, List.getElem?_cons_zero, List.getElem?_cons_succ]; rfl)
          case wn10_76 => rfl
          case yn10_76 => (intro w hSw; (try dsimp only at hSw); go_simp; (try with_reducible rfl))
          (try simp only [Act.put, List.setIfInBounds_toArray, List.set_cons_zero, List.set_cons_succ])
          refine wpAnyH_take (i := 11) (oi := ?o11_77) (v := ?v11_77) ?ho11_77 (by kernel_rfl) (by kernel_rfl) (by kernel_rfl) (fun _ _ _ h => h) (Or.inl ⟨?wn11_77, ?yn11_77⟩) (by assumption) ?rest11_77
          case ho11_77 => (simp only [List.getElem?_toArray, List.getElem?_cons_zero, List.getElem?_cons_succ]; rfl)
          case wn11_77 => rfl
          case yn11_77 => (intro w hSw; (try dsimp only at hSw); go_simp; (try with_reducible rfl))
          (try simp only [Act.put, List.setIfInBounds_toArray, List.set_cons_zero, List.set_cons_succ])
          refine wpAnyH_take (i := 16) (oi := ?o16_78) (v := ?v16_78) ?ho16_78 (by kernel_rfl) (by kernel_rfl) (by kernel_rfl) (fun _ _ _ h => h) (Or.inl ⟨?wn16_78, ?yn16_78⟩) (by assumption) ?rest16_78
          case ho16_78 => (simp only [List.getElem?_toArray, List.getElem?_cons_zero, List.getElem?_cons_succ]; rfl)
          case wn16_78 => rfl
          case yn16_78 => (intro w hSw; (try dsimp only at hSw); go_simp; (try with_reducible rfl))
          (try simp only [Act.put, List.setIfInBounds_toArray, List.set_cons_zero, List.set_cons_succ])
          refine wpAnyH_take (i := 17) (oi := ?o17_79) (v := ?v17_79) ?ho17_79 (by kernel_rfl) (by kernel_rfl) (by kernel_rfl) (fun _ _ _ h => h) (Or.inl ⟨?wn17_79, ?yn17_79⟩) (by assumption) ?rest17_79
          case ho17_79 => (simp only [List.getElem?_toArray, List.getElem?_cons_zero, List.getElem?_cons_succ]; rfl)
          case wn17_79 => rfl
          case yn17_79 => (intro w hSw; (try dsimp only at hSw); go_simp; (try with_reducible rfl))
          (try simp only [Act.put, List.setIfInBounds_toArray, List.set_cons_zero, List.set_cons_succ])
          refine wpAnyH_ready (rs := [7]) (by kernel_rfl) (by simp) ?_
          refine AllReadyH.cons (o := ?o7_80) ?ho7_80 (fun K hK => ?rest7_80) AllReadyH.nil
          case ho7_80 => (simp only [List.getElem?_toArray, List.getElem?_cons_zero, List.getElem?_cons_succ]; rfl)
          go_simp
          refine hK.out _ _ (zy) (fun hHeld => ?_)
          clear hK K
          (try simp only [Act.put, List.setIfInBounds_toArray, List.set_cons_zero, List.set_cons_succ])
          refine wpAnyH_ready (rs := [12]) (by kernel_rfl) (by simp) ?_
          refine AllReadyH.cons (o := ?o12_81) ?ho12_81 (fun K hK => ?rest12_81) AllReadyH.nil
          case ho12_81 => (simp only [List.getElem?_toArray, List.getElem?_cons_zero, List.getElem?_cons_succ]; rfl)
          go_simp
          with_reducible refine (hsub _).mono ?_
          rintro e w' ⟨rfl, rfl⟩
          refine hK.out _ _ (zy) (fun hHeld => ?_)
          clear hK K
          (try simp only [Act.put, List.setIfInBounds_toArray, List.set_cons_zero, List.set_cons_succ])
          refine wpAnyH_take (i := 13) (oi := ?o13_82) (v := ?v13_82) ?ho13_82 (by kernel_rfl) (by kernel_rfl) (by kernel_rfl) (fun _ _ _ h => h) (Or.inl ⟨?wn13_82, ?yn13_82⟩) (by assumption) ?rest13_82
          case ho13_82 => (simp only [List.getElem?_toArray, List.getElem?_cons_zero, List.getElem?_cons_succ]; rfl)
          case wn13_82 => rfl
          case yn13_82 => (intro w hSw; (try dsimp only at hSw); go_simp; (try with_reducible rfl))
          (try simp only [Act.put, List.setIfInBounds_toArray, List.set_cons_zero, List.set_cons_succ])
          refine wpAnyH_take (i := 14) (oi := ?o14_83) (v := ?v14_83) ?ho14_83 (by kernel_rfl) (by kernel_rfl) (by kernel_rfl) (fun _ _ _ h => h) (Or.inl ⟨?wn14_83, ?yn14_83⟩) (by assumption) ?rest14_83
          case ho14_83 => (simp only [List.getElem?_toArray, List.getElem?_cons_zero, List.getElem?_cons_succ]; rfl)
          case wn14_83 => rfl
          case yn14_83 => (intro w hSw; (try dsimp only at hSw); go_simp; (try with_reducible rfl))
          (try simp only [Act.put, List.setIfInBounds_toArray, List.set_cons_zero, List.set_cons_succ])
          refine wpAnyH_take (i := 15) (oi := ?o15_84) (v := ?v15_84) ?ho15_84 (by kernel_rfl) (by kernel_rfl) (by kernel_rfl) (fun _ _ _ h => h) (Or.inl ⟨?wn15_84, ?yn15_84⟩) (by assumption) ?rest15_84
          case ho15_84 => (simp only [List.getElem?_toArray, List.getElem?_cons_zero, List.getElem?_cons_succ]; rfl)
          case wn15_84 => rfl
          case yn15_84 => (intro w hSw; (try dsimp only at hSw); go_simp; (try with_reducible rfl))
          (try simp only [Act.put, List.setIfInBounds_toArray, List.set_cons_zero, List.set_cons_succ])
          refine wpAnyH_take (i := 18) (oi := ?o18_85) (v := ?v18_85) ?ho18_85 (by kernel_rfl) (by kernel_rfl) (by kernel_rfl) (fun _ _ _ h => h) (Or.inl ⟨?wn18_85, ?yn18_85⟩) (by assumption) ?rest18_85
          case ho18_85 => (simp only [List.getElem?_toArray, List.getElem?_cons_zero, List.getElem?_cons_succ]; rfl)
          case wn18_85 => rfl
          case yn18_85 => (intro w hSw; (try dsimp only at hSw); go_simp; (try with_reducible rfl))
          (try simp only [Act.put, List.setIfInBounds_toArray, List.set_cons_zero, List.set_cons_succ])
          refine wpAnyH_ready (rs := [19]) (by kernel_rfl) (by simp) ?_
          refine AllReadyH.cons (o := ?o19_86) ?ho19_86 (fun K hK => ?rest19_86) AllReadyH.nil
          case ho19_86 => (simp only [List.getElem?_toArray, List.getElem?_cons_zero, List.getElem?_cons_succ]; rfl)
          go_simp
          refine hK.out _ _ (zyb) (fun hHeld => ?_)
          clear hK K
          (try simp only [Act.put, List.setIfInBounds_toArray, List.set_cons_zero, List.set_cons_succ])
          refine wpAnyH_take (i := 20) (oi := ?o20_87) (v := ?v20_87) ?ho20_87 (by kernel_rfl) (by kernel_rfl) (by kernel_rfl) (fun _ _ _ h => h) (Or.inl ⟨?wn20_87, ?yn20_87⟩) (by assumption) ?rest20_87
          case ho20_87 => (simp only [List.getElem?_toArray, List.getElem?_cons_zero, List.getElem?_cons_succ]; rfl)
          case wn20_87 => rfl
          case yn20_87 => (intro w hSw; (try dsimp only at hSw); go_simp; (try with_reducible rfl))
          (try simp only [Act.put, List.setIfInBounds_toArray, List.set_cons_zero, List.set_cons_succ])
          refine wpAnyH_done (by kernel_rfl) ?_ _
          refine NoPanic.normal ?_
          go_wp2
          go_roundw
          case rel => exact ⟨j + 1, r, N.set j d, by omega, by go_num, rfl, hr1, hNl', hNb', hNa', hv', hK'.drew, hKx'.drew, hB'.drew⟩
          case measure => simp [intOf] <;> omega
        · obtain rfl : j = 74 := by omega
          have hv2 := hv.out
          have pN := pre_all 4294967296 N 74 (by rw [hNl.out]; exact Nat.le_refl _)
          have pA := pre_all 4294967296 b 74 (by rw [gA.out]; exact Nat.le_refl _)
          have pB := pre_all 4294967296 a 74 (by rw [gBl.out]; exact Nat.le_refl _)
          rw [pA, pB, pN] at hv2
          have hVN := val_lt hNb.out
          rw [hNl.out] at hVN
          have hle := gle.out
          have q0 : q = 0 := by
            rcases Nat.eq_zero_or_pos q with h | h
            · exact h
            · obtain rfl : q = 1 := by omega
              omega
          subst q0
          have gl := hNl.out
          have gb := hNb.out
          have hv3 : val 4294967296 N = val 4294967296 b - val 4294967296 a := by omega
          clear hNl hNb hNa hv hv2 hVN pN pA pB xs hKx gA gAb gBb gBl gle hle
          go_wp2
          go_end0
          exact ⟨rfl, N, hK, gl, gb, hv3, hB⟩
end Go.Proofs.YtdmjdpaehnhdoaaDoor
