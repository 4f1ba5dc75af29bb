/- Door: (*dyad.sum).add of two signs -/
import Derived.Test.YtdmjdpaehnhdoaaDoorDE
namespace Go.Proofs.YtdmjdpaehnhdoaaDoor
open Go.ChangeShapes Go.WideShapes Go.ChangeAt Go.RowKit
set_option linter.unusedSimpArgs false
set_option linter.unusedVariables false
theorem Blk.setCells {g : Nat} {t : TypeId} : ∀ (vs : List Value) (o : Nat) (w : World) (cs : Array Value), Blk w g t cs → ∃ ds : Array Value, Blk (w.setCells g o vs) g t ds ∧ ds.size = cs.size ∧ ∀ i, ds[i]? = if o ≤ i ∧ i < o + vs.length ∧ i < cs.size then vs[i - o]? else cs[i]?
  | [], o, w, cs, h => ⟨cs, h, rfl, fun i => by rw [if_neg (by simp; omega)]⟩
  | v :: r, o, w, cs, h => by
    obtain ⟨ds, h1, h2, h3⟩ := Blk.setCells r (o + 1) _ _ (h.set_ o v)
    refine ⟨ds, by rw [World.setCells]; exact h1, by rw [h2, Array.size_setIfInBounds], fun i => ?_⟩
    rw [h3, Array.size_setIfInBounds, Array.getElem?_setIfInBounds]
    simp only [List.length_cons]
    by_cases h0 : o = i
    · subst h0
      rw [if_neg (by omega), if_pos rfl]
      by_cases hs : o < cs.size
      · rw [if_pos hs, if_pos (by omega)]; simp
      · rw [if_neg hs, if_neg (by omega), Array.getElem?_eq_none (by omega)]
    · rw [if_neg h0]
      by_cases h4 : o + 1 ≤ i ∧ i < o + 1 + r.length ∧ i < cs.size
      · rw [if_pos h4, if_pos (by omega), show i - o = (i - (o + 1)) + 1 by omega, List.getElem?_cons_succ]
      · rw [if_neg h4, if_neg (by omega)]
theorem Blk.farCells {g b : Nat} {t : TypeId} (hb : g ≠ b) : ∀ (vs : List Value) (o : Nat) (w : World) (cs : Array Value), Blk w g t cs → Blk (w.setCells b o vs) g t cs
  | [], _, _, _, h => h
  | v :: r, o, w, cs, h => by rw [World.setCells]; exact Blk.farCells hb r (o + 1) _ _ (h.far (p := ⟨b, o, none⟩) hb v)
theorem below_setCells {B b : Nat} {w0 : World} (hb : B ≤ b) : ∀ (vs : List Value) (o : Nat) (w : World), Below B w0 w → Below B w0 (w.setCells b o vs)
  | [], _, _, h => h
  | v :: r, o, w, h => by rw [World.setCells]; exact below_setCells hb r (o + 1) _ (h.setCell (p := ⟨b, o, none⟩) hb v)
theorem Blk.there {w : World} {g o n : Nat} {t : TypeId} {cs : Array Value} (h : Blk w g t cs) (hn : o + n ≤ cs.size) : w.there g o n := fun j hj => ⟨by rw [h.cell, Array.getElem?_eq_getElem (by omega)]; rfl, h.frozen _⟩
theorem step_load_mid {P : Program} {ops : Array Oper} {o : Oper} {a : Act} {w : World} {K : Act → World → Prop} {Q : Exit → Act → World → Prop} {E : Prop} (hgd : o.guard = none) (d0 : Option Tmp) (hd0 : o.dst = d0) (ty : TypeId) (x : Operand) (ho : o.op = .load ty x)
    (b i : Nat) (hx : a.eval x = .pointer (some ⟨b, i, none⟩)) (cs : List Value) (d : TypeDesc) (hc : w.rangeAt b i cs) (hu : P.underlying ty = some d) (hd : d.isRow = true) (hi : (P.info? ty).map (·.size) = some cs.length)
    (h : K (a.put d0 (.agg cs.toArray)) w) : if Region.wanted o (yielded ops a.tmps) = true then Oper.wp P o a w K Q else E := by
  have hw : Region.wanted o (yielded ops a.tmps) = true := by simp [Region.wanted, hgd]
  rw [if_pos hw]
  subst hd0
  exact wp_load_mid ty x ho b i hx cs d hc hu hd hi h
theorem step_store_mid {P : Program} {ops : Array Oper} {o : Oper} {a : Act} {w : World} {K : Act → World → Prop} {Q : Exit → Act → World → Prop} {E : Prop} (hgd : o.guard = none) (hd0 : o.dst = none) (ty : TypeId) (x y : Operand) (ho : o.op = .store ty x y)
    (b i : Nat) (cells : Array Value) (hx : a.eval x = .pointer (some ⟨b, i, none⟩)) (hy : a.eval y = .agg cells) (ht : w.there b i cells.size) (hi : (P.info? ty).map (·.size) = some cells.size) (h1 : cells.all (·.oneCell') = true)
    (h : K (a.put none undef) (w.setCells b i cells.toList)) : if Region.wanted o (yielded ops a.tmps) = true then Oper.wp P o a w K Q else E := by
  have hw : Region.wanted o (yielded ops a.tmps) = true := by simp [Region.wanted, hgd]
  rw [if_pos hw]
  rw [← hd0] at h
  exact wp_store_mid ty x y ho b i cells hx hy ht hi h1 h
/-- A sum's limbs are laid anew. -/
theorem sum_row {w : World} {g : Nat} {sn : Bool} {e : Int} {a b : List Nat} (ha : a.length = 74) (hb : b.length = 74) (h : Blk w g 128 (sumC sn e a)) : Blk (w.setCells g 3 (ints .u32 b)) g 128 (sumC sn e b) := by
  obtain ⟨ds, h1, h2, h3⟩ := Blk.setCells (ints .u32 b) 3 w _ h
  have : ds = sumC sn e b := by
    apply Array.ext_getElem?
    intro i
    have hl : (ints .u32 b).length = 74 := by simp [hb]
    rw [h3, hl, sum_size, ha]
    by_cases hi : 3 ≤ i
    · by_cases h7 : i < 77
      · rw [if_pos (by omega), show i = 3 + (i - 3) by omega, sum_at sn e (by omega), show 3 + (i - 3) - 3 = i - 3 by omega]
        exact ints_at .u32 (by omega)
      · rw [if_neg (by omega), Array.getElem?_eq_none (by rw [sum_size]; omega), Array.getElem?_eq_none (by rw [sum_size]; omega)]
    · rw [if_neg (by omega)]
      unfold sumC
      rw [Array.getElem?_append_left (by simp; omega), Array.getElem?_append_left (by simp; omega)]
  rw [← this]
  exact h1
theorem row_row {w : World} {g : Nat} {t : TypeId} {cs : Array Value} {b : List Value} (hc : cs.size = b.length) (h : Blk w g t cs) : Blk (w.setCells g 0 b) g t b.toArray := by
  obtain ⟨ds, h1, h2, h3⟩ := Blk.setCells b 0 w _ h
  have : ds = b.toArray := by
    apply Array.ext_getElem?
    intro i
    rw [h3]
    by_cases hi : i < cs.size
    · rw [if_pos (by omega)]; simp
    · rw [if_neg (by omega), Array.getElem?_eq_none (by omega), Array.getElem?_eq_none (by simp; omega)]
  rw [← this]
  exact h1
set_option maxRecDepth 100000 in
set_option maxHeartbeats 8000000 in
theorem addu_ge (g : Nat) (sn : Bool) (e : Int) (a b : List Nat) (hn : a.length = 74) (hn2 : b.length = 74) (ha : ∀ x ∈ a, x < 4294967296) (hb : ∀ x ∈ b, x < 4294967296) (w : World) (k : Blk w g 128 (sumC sn e a)) (hRr : decide (val 4294967296 a < val 4294967296 b) = false) :
    Calls Tryd.prog 78 #[.pointer (some ⟨g, 0, none⟩), .bool (!sn), .agg (ints .u32 b).toArray] w (AddP g sn e (val 4294967296 a - val 4294967296 b) w) := by
  obtain ⟨V, hV⟩ : ∃ V, V = w.alloc (.cells (ints .u32 b).toArray 108) := ⟨_, rfl⟩
  have hB0 : Below g w V := by rw [hV]; exact (Below.refl _ _).alloc (Nat.le_of_lt k.lt) _
  have k0 : Blk V g 128 (sumC sn e a) := by rw [hV]; exact k.alloc _
  have kx0 : Blk V w.heap.size 108 (ints .u32 b).toArray := by rw [hV]; exact Blk.new w _ _
  have hgx : g < w.heap.size := k.lt
  have c0 : V.cell? ⟨g, 0, none⟩ = some (.bool sn) := by rw [k0.cell]; exact sum_neg sn e a
  have tb : ((!sn) == sn) = false := by cases sn <;> rfl
  obtain ⟨X, hX⟩ : ∃ X, (ints .u32 b).toArray = X := ⟨_, rfl⟩
  have hXc : ∀ i, i < 74 → X[i]? = some (.int .u32 ((b.getD i 0 : Nat) : Int)) := fun i hi => by rw [← hX]; simp only [List.getElem?_toArray]; exact ints_at .u32 (by omega)
  have gX := Lib.hid hX
  rw [hX] at kx0 hV ⊢
  clear hX
  obtain ⟨nb, hnb⟩ : ∃ nb, (!sn) = nb := ⟨_, rfl⟩
  rw [hnb] at tb ⊢
  have gnb := Lib.hid hnb
  clear hnb
  have gR := Lib.hid hRr
  have hbl := below_any g 3 w.heap.size a b hn hn2 ha hb V (fun i hi => by rw [k0.cell, sum_at sn e (by rw [hn]; exact hi)]) (fun i hi => by rw [kx0.cell, hXc i hi]) false hRr
  clear hRr
  go_enter Tryd.func78, Tryd.ntmps78
  go_upto_region 1 with (fail)
  rw [← hV]
  clear hV k
  go_wp2
  refine wp_scope_jumps 0 (fun a' w' => w' = V ∧ ∃ u9 u10 u11 u12 u13 u14 u15, a' = { tmps := #[.pointer (some ⟨g, 0, none⟩), .bool nb, .agg X, undef, undef, .pointer (some ⟨w.heap.size, 0, none⟩), .int .u32 0, undef, undef, u9, u10, u11, u12, u13, u14, u15] ++ #[undef, undef, undef, undef, undef, undef, undef, undef, undef, undef, undef, undef, undef, undef, undef, undef, undef, undef, undef, undef, undef, undef, undef, undef, undef, undef, undef, undef, undef, undef, undef, undef, undef, undef, undef, undef, undef, undef, undef, undef, undef, undef, undef, undef, undef, undef, undef, undef, undef, undef, undef, undef, undef, undef, undef, undef, undef, undef, undef, undef, undef, undef, undef], defers := [] }) (fun _ _ => 0) rfl ?_ ?_
  · go_wp2
    go_step3
    refine ⟨rfl, rfl, .bool nb, .pointer (some ⟨g, 0, none⟩), .pointer (some ⟨g, 0, none⟩), .pointer (some ⟨g, 0, none⟩), .pointer (some ⟨g, 0, none⟩), .bool sn, .bool true, ?_⟩
    simp only [List.append_toArray, List.cons_append, List.nil_append]
  · rintro a' w' ⟨rfl, u9, u10, u11, u12, u13, u14, u15, rfl⟩
    simp only [List.append_toArray, List.cons_append, List.nil_append]
    clear c0 tb
    go_wp2_with fail
    refine hbl.mono ?_
    rintro en w2 ⟨rfl, m, rfl⟩
    have k2 : Blk (w'.drewN m) g 128 (sumC sn e a) := k0
    have kx2 : Blk (w'.drewN m) w.heap.size 108 X := kx0
    have hB2 : Below g w (w'.drewN m) := below_drewN hB0 m
    clear hbl k0 kx0 hB0
    generalize w'.drewN m = W2 at *
    have gle := Lib.hid (Nat.le_of_not_lt (of_decide_eq_false gR.out))
    obtain ⟨X1, hX1e⟩ : ∃ X1, X = X1 := ⟨_, rfl⟩
    have hX1 := hXc
    rw [hX1e] at hX1 kx2
    have gA := Lib.hid hn
    have gAb := Lib.hid ha
    have gBl := Lib.hid hn2
    have gBb := Lib.hid hb
    clear hX1e hXc gX gR gnb hn hn2 ha hb
    have xs : ∀ i, i < 74 → X1[i]? = some (.int .u32 ((b.getD i 0 : Nat) : Int)) := hX1
    go_wp2
    go_loopw [6, 56] (fun cy i wr => ∃ (j q : Nat) (N : List Nat), j ≤ 74 ∧ i = .int .i64 (j : Int) ∧ cy = .int .u32 (q : Int) ∧ q ≤ 1 ∧ Hid (N.length = 74) ∧ Hid (∀ x ∈ N, x < 4294967296) ∧ Hid (∀ i, j ≤ i → N.getD i 0 = a.getD i 0) ∧ Hid (pre 4294967296 a j + 4294967296 ^ j * q = pre 4294967296 N j + pre 4294967296 b j) ∧ Blk wr g 128 (sumC sn e N) ∧ Blk wr w.heap.size 108 X1 ∧ Below g w wr) (fun _ i _ => 74 - (intOf i).toNat)
    case atStart => exact ⟨0, 0, a, Nat.zero_le _, rfl, rfl, by omega, Lib.hid gA.out, Lib.hid gAb.out, Lib.hid (fun i _ => rfl), Lib.hid rfl, k2, kx2, hB2⟩
    case round =>
      clear k2 kx2 hB2
      obtain ⟨j, q, N, hj, rfl, rfl, hq, hNl, hNb, hNa, hv, hK, hKx, hB⟩ := hrel
      by_cases hlt : j < 74
      · have xa := getD_lt (B := 4294967296) (by omega) gAb.out j
        have xb := getD_lt (B := 4294967296) (by omega) gBb.out j
        have va := pre_succ 4294967296 a j
        have vb := pre_succ 4294967296 b j
        have zc : wr.cell? ⟨g, 3 + j, none⟩ = some (.int .u32 ((a.getD j 0 : Nat) : Int)) := by rw [hK.cell, sum_at sn e (by rw [hNl.out]; exact hlt), hNa.out j (Nat.le_refl _)]
        have zy : wr.cell? ⟨w.heap.size, j, none⟩ = some (.int .u32 ((b.getD j 0 : Nat) : Int)) := by rw [hKx.cell, xs j hlt]
        have zf := hK.frozen (3 + j)
        have zl := hK.lt
        obtain ⟨x, hx⟩ : ∃ x, a.getD j 0 = x := ⟨_, rfl⟩
        obtain ⟨y, hy⟩ : ∃ y, b.getD j 0 = y := ⟨_, rfl⟩
        rw [hx] at va xa zc
        rw [hy] at vb xb zy
        obtain ⟨d, hd⟩ : ∃ d, (x + 4294967296 - y - q) % 4294967296 = d := ⟨_, rfl⟩
        obtain ⟨r, hr⟩ : ∃ r, (if x < y + q then 1 else 0 : Nat) = r := ⟨_, rfl⟩
        have hsub := fun w => sub32 x y q xa xb hq w
        simp only [hd, hr] at hsub
        have hr1 : r ≤ 1 := by rw [← hr]; split <;> omega
        have he : x + 4294967296 * r = d + y + q := by rw [← hr, ← hd]; split <;> omega
        have hdl : d < 4294967296 := by rw [← hd]; exact Nat.mod_lt _ (by omega)
        have hv' : Hid (pre 4294967296 a (j + 1) + 4294967296 ^ (j + 1) * r = pre 4294967296 (N.set j d) (j + 1) + pre 4294967296 b (j + 1)) := Lib.hid (by
          rw [va, vb, pre_set_at (by rw [hNl.out]; exact hlt)]
          exact less_step he hv.out)
        have hNb' : Hid (∀ z ∈ N.set j d, z < 4294967296) := Lib.hid (by
          intro z hz
          rcases List.mem_or_eq_of_mem_set hz with h | h
          · exact hNb.out z h
          · omega)
        have hNl' : Hid ((N.set j d).length = 74) := Lib.hid (by rw [List.length_set]; exact hNl.out)
        have hNa' : Hid (∀ i, j + 1 ≤ i → (N.set j d).getD i 0 = a.getD i 0) := Lib.hid (fun i hi => by
          rw [List.getD_eq_getElem?_getD, List.getElem?_set, if_neg (by omega), ← List.getD_eq_getElem?_getD]
          exact hNa.out i (by omega))
        have hK' := hK.set_ (3 + j) (.int .u32 (d : Int))
        rw [sum_set] at hK'
        have hKx' := hKx.far (p := ⟨g, 3 + j, none⟩) (by show w.heap.size ≠ g; omega) (.int .u32 (d : Int))
        have hB' := hB.setCell (p := ⟨g, 3 + j, none⟩) (Nat.le_refl _) (.int .u32 (d : Int))
        have zyb : (wr.setCell ⟨g, 3 + j, none⟩ (.int .u32 (d : Int))).cell? ⟨w.heap.size, j, none⟩ = some (.int .u32 (y : Int)) := by rw [hKx'.cell, xs j hlt, hy]
        have i1 : (0 : Int) ≤ j := by omega
        have i2 : (j : Int) < 74 := by omega
        clear hx hy va vb hv hNl hNb hNa hd hr hK hKx hB he xs gA gAb gBb gle
        go_wp2_with fail
        refine wp_region_noPanic ?_
        refine wp_region_held_drew (S := fun w' => w'.cell? ⟨w.heap.size, j, none⟩ = some (.int .u32 (y : Int))) (by kernel_rfl) (zy) (fun hHeld => ?_)
        refine tkY 0 (h := ?_)
        (try simp only [Act.put, lsA, lsZ, lsS])
        refine tkY 1 (h := ?_)
        (try simp only [Act.put, lsA, lsZ, lsS])
        refine tkY 2 (h := ?_)
        (try simp only [Act.put, lsA, lsZ, lsS])
        refine tkY 3 (h := ?_)
        (try simp only [Act.put, lsA, lsZ, lsS])
        refine tkY 4 (h := ?_)
        (try simp only [Act.put, lsA, lsZ, lsS])
        refine tkY 5 (h := ?_)
        (try simp only [Act.put, lsA, lsZ, lsS])
        refine tkY 6 (h := ?_)
        (try simp only [Act.put, lsA, lsZ, lsS])
        refine tkY 8 (h := ?_)
        (try simp only [Act.put, lsA, lsZ, lsS])
        refine tkY 9 (h := ?_)
        (try simp only [Act.put, lsA, lsZ, lsS])
        refine tkY 10 (h := ?_)
        (try simp only [Act.put, lsA, lsZ, lsS])
        refine tkY 11 (h := ?_)
        (try simp only [Act.put, lsA, lsZ, lsS])
        refine tkY 16 (h := ?_)
        (try simp only [Act.put, lsA, lsZ, lsS])
        refine tkY 17 (h := ?_)
        (try simp only [Act.put, lsA, lsZ, lsS])
        refine tkR 7 (h := fun K hK => ?_)
        go_simp
        refine hK.out _ _ (zy) (fun hHeld => ?_)
        clear hK K
        (try simp only [Act.put, lsA, lsZ, lsS])
        refine tkR 12 (h := fun K hK => ?_)
        go_simp
        with_reducible refine (hsub _).mono ?_
        rintro e w' ⟨rfl, rfl⟩
        refine hK.out _ _ (zy) (fun hHeld => ?_)
        clear hK K
        (try simp only [Act.put, lsA, lsZ, lsS])
        refine tkY 13 (h := ?_)
        (try simp only [Act.put, lsA, lsZ, lsS])
        refine tkY 14 (h := ?_)
        (try simp only [Act.put, lsA, lsZ, lsS])
        refine tkY 15 (h := ?_)
        (try simp only [Act.put, lsA, lsZ, lsS])
        refine tkY 18 (h := ?_)
        (try simp only [Act.put, lsA, lsZ, lsS])
        refine tkR 19 (h := fun K hK => ?_)
        go_simp
        refine hK.out _ _ (zyb) (fun hHeld => ?_)
        clear hK K
        (try simp only [Act.put, lsA, lsZ, lsS])
        refine tkY 20 (h := ?_)
        (try simp only [Act.put, lsA, lsZ, lsS])
        refine wpAnyH_done (by kernel_rfl) ?_ _
        refine NoPanic.normal ?_
        go_wp2
        go_roundw
        case rel => exact ⟨j + 1, r, N.set j d, by omega, by go_num, rfl, hr1, hNl', hNb', hNa', hv', hK'.drew, hKx'.drew, hB'.drew⟩
        case measure => simp [intOf] <;> omega
      · obtain rfl : j = 74 := by omega
        have hv2 := hv.out
        have pN := pre_all 4294967296 N 74 (by rw [hNl.out]; exact Nat.le_refl _)
        have pA := pre_all 4294967296 a 74 (by rw [gA.out]; exact Nat.le_refl _)
        have pB := pre_all 4294967296 b 74 (by rw [gBl.out]; exact Nat.le_refl _)
        rw [pA, pB, pN] at hv2
        have hVN := val_lt hNb.out
        rw [hNl.out] at hVN
        have hle := gle.out
        have q0 : q = 0 := by
          rcases Nat.eq_zero_or_pos q with h | h
          · exact h
          · obtain rfl : q = 1 := by omega
            omega
        subst q0
        have gl := hNl.out
        have gb := hNb.out
        have hv3 : val 4294967296 N = val 4294967296 a - val 4294967296 b := by omega
        clear hNl hNb hNa hv hv2 hVN pN pA pB xs hKx gA gAb gBb gBl gle hle
        go_wp2
        go_end0
        exact ⟨rfl, N, hK, gl, gb, hv3, hB⟩
set_option maxRecDepth 100000 in
set_option maxHeartbeats 8000000 in
theorem addu_lt (g : Nat) (sn : Bool) (e : Int) (a b : List Nat) (hn : a.length = 74) (hn2 : b.length = 74) (ha : ∀ x ∈ a, x < 4294967296) (hb : ∀ x ∈ b, x < 4294967296) (w : World) (k : Blk w g 128 (sumC sn e a)) (hRr : decide (val 4294967296 a < val 4294967296 b) = true) :
    Calls Tryd.prog 78 #[.pointer (some ⟨g, 0, none⟩), .bool (!sn), .agg (ints .u32 b).toArray] w (AddP g (!sn) e (val 4294967296 b - val 4294967296 a) w) := by
  obtain ⟨V, hV⟩ : ∃ V, V = w.alloc (.cells (ints .u32 b).toArray 108) := ⟨_, rfl⟩
  have hB0 : Below g w V := by rw [hV]; exact (Below.refl _ _).alloc (Nat.le_of_lt k.lt) _
  have k0 : Blk V g 128 (sumC sn e a) := by rw [hV]; exact k.alloc _
  have kx0 : Blk V w.heap.size 108 (ints .u32 b).toArray := by rw [hV]; exact Blk.new w _ _
  have hgx : g < w.heap.size := k.lt
  have c0 : V.cell? ⟨g, 0, none⟩ = some (.bool sn) := by rw [k0.cell]; exact sum_neg sn e a
  have tb : ((!sn) == sn) = false := by cases sn <;> rfl
  obtain ⟨X, hX⟩ : ∃ X, (ints .u32 b).toArray = X := ⟨_, rfl⟩
  have hXc : ∀ i, i < 74 → X[i]? = some (.int .u32 ((b.getD i 0 : Nat) : Int)) := fun i hi => by rw [← hX]; simp only [List.getElem?_toArray]; exact ints_at .u32 (by omega)
  have gX := Lib.hid hX
  rw [hX] at kx0 hV ⊢
  clear hX
  obtain ⟨nb, hnb⟩ : ∃ nb, (!sn) = nb := ⟨_, rfl⟩
  rw [hnb] at tb ⊢
  have gnb := Lib.hid hnb
  clear hnb
  have gR := Lib.hid hRr
  have hbl := below_any g 3 w.heap.size a b hn hn2 ha hb V (fun i hi => by rw [k0.cell, sum_at sn e (by rw [hn]; exact hi)]) (fun i hi => by rw [kx0.cell, hXc i hi]) true hRr
  clear hRr
  go_enter Tryd.func78, Tryd.ntmps78
  go_upto_region 1 with (fail)
  rw [← hV]
  clear hV k
  go_wp2
  refine wp_scope_jumps 0 (fun a' w' => w' = V ∧ ∃ u9 u10 u11 u12 u13 u14 u15, a' = { tmps := #[.pointer (some ⟨g, 0, none⟩), .bool nb, .agg X, undef, undef, .pointer (some ⟨w.heap.size, 0, none⟩), .int .u32 0, undef, undef, u9, u10, u11, u12, u13, u14, u15] ++ #[undef, undef, undef, undef, undef, undef, undef, undef, undef, undef, undef, undef, undef, undef, undef, undef, undef, undef, undef, undef, undef, undef, undef, undef, undef, undef, undef, undef, undef, undef, undef, undef, undef, undef, undef, undef, undef, undef, undef, undef, undef, undef, undef, undef, undef, undef, undef, undef, undef, undef, undef, undef, undef, undef, undef, undef, undef, undef, undef, undef, undef, undef, undef], defers := [] }) (fun _ _ => 0) rfl ?_ ?_
  · go_wp2
    go_step3
    refine ⟨rfl, rfl, .bool nb, .pointer (some ⟨g, 0, none⟩), .pointer (some ⟨g, 0, none⟩), .pointer (some ⟨g, 0, none⟩), .pointer (some ⟨g, 0, none⟩), .bool sn, .bool true, ?_⟩
    simp only [List.append_toArray, List.cons_append, List.nil_append]
  · rintro a' w' ⟨rfl, u9, u10, u11, u12, u13, u14, u15, rfl⟩
    simp only [List.append_toArray, List.cons_append, List.nil_append]
    clear c0 tb
    go_wp2_with fail
    refine hbl.mono ?_
    rintro en w2 ⟨rfl, m, rfl⟩
    have k2 : Blk (w'.drewN m) g 128 (sumC sn e a) := k0
    have kx2 : Blk (w'.drewN m) w.heap.size 108 X := kx0
    have hB2 : Below g w (w'.drewN m) := below_drewN hB0 m
    clear hbl k0 kx0 hB0
    generalize w'.drewN m = W2 at *
    have gle := Lib.hid (Nat.le_of_lt (of_decide_eq_true gR.out))
    have hrx : W2.drew.rangeAt w.heap.size 0 X.toList := kx2.drew.range 0 X.toList (by rw [List.drop_zero, List.take_length])
    have hXs : X.size = 74 := by rw [← gX.out, ints_size]; exact hn2
    have hia : (Tryd.prog.info? 108).map (·.size) = some (ints .u32 a).length := by rw [List.length_map, hn]; exact (zero_of_info zeroW).2
    have hix : (Tryd.prog.info? 108).map (·.size) = some X.toList.length := by rw [Array.length_toList, hXs]; exact (zero_of_info zeroW).2
    have hra : W2.drew.rangeAt g 3 (ints .u32 a) := k2.drew.range 3 _ (by unfold sumC; simp [hn]; exact List.take_of_length_le (by simp [hn]))
    have hsx : (Tryd.prog.info? 108).map (·.size) = some X.toList.toArray.size := by rw [List.size_toArray]; exact hix
    have hsa := sizeW hn
    have hoa := ints_oneW .u32 a
    have hox : X.toList.toArray.all (·.oneCell') = true := by rw [Array.toArray_toList, ← gX.out]; exact ints_oneW .u32 b
    have ht1 : W2.drew.there g 3 X.toList.toArray.size := k2.drew.there (by rw [sum_size, hn, Array.toArray_toList, hXs]; exact Nat.le_refl _)
    have hXb : X.toList = ints .u32 b := by rw [← gX.out]
    have kg1 : Blk (W2.drew.setCells g 3 X.toList) g 128 (sumC sn e b) := by rw [hXb]; exact sum_row hn hn2 k2.drew
    have kg2 : Blk ((W2.drew.setCells g 3 X.toList).setCells w.heap.size 0 (ints .u32 a)) g 128 (sumC sn e b) := Blk.farCells (show g ≠ w.heap.size by omega) _ _ _ _ kg1
    have c9 : ((W2.drew.setCells g 3 X.toList).setCells w.heap.size 0 (ints .u32 a)).cell? ⟨g, 0, none⟩ = some (.bool sn) := by rw [kg2.cell]; exact sum_neg sn e b
    have f9 := kg2.frozen 0
    have l9 := kg2.lt
    have ht2 : (W2.drew.setCells g 3 X.toList.toArray.toList).there w.heap.size 0 (ints .u32 a).toArray.size := (Blk.farCells (show w.heap.size ≠ g by omega) _ _ _ _ kx2.drew).there (by rw [ints_size, hn, hXs]; exact Nat.le_refl _)
    clear hXb
    go_wp2_with fail
    refine wp_region_noPanic ?_
    refine wp_region_held_drew (S := fun _ => True) (by kernel_rfl) (trivial) (fun hHeld => ?_)
    refine tkY 0 (h := ?_)
    (try simp only [Act.put, lsA, lsZ, lsS])
    refine tkY 1 (h := ?_)
    (try simp only [Act.put, lsA, lsZ, lsS])
    refine tkY 3 (h := ?_)
    (try simp only [Act.put, lsA, lsZ, lsS])
    refine tkY 4 (h := ?_)
    (try simp only [Act.put, lsA, lsZ, lsS])
    refine tkY 5 (h := ?_)
    (try simp only [Act.put, lsA, lsZ, lsS])
    refine tkY 7 (h := ?_)
    (try simp only [Act.put, lsA, lsZ, lsS])
    refine wpAnyH_ready (rs := [2, 6]) (by kernel_rfl) (by simp) ?_
    refine AllReadyH.cons rfl (fun K hK => ?_) (AllReadyH.cons rfl (fun K hK => ?_) AllReadyH.nil)
    · refine step_load_mid rfl (some 45) rfl 108 (.tmp 5) rfl w.heap.size 0 rfl X.toList _ hrx Tryd.underlying108 rfl hix ?_
      refine hK.out _ _ (trivial) (fun hHeld => ?_)
      clear hK K
      (try simp only [Act.put, lsA, lsZ, lsS])
      refine tkR 6 (h := fun K hK => ?_)
      refine step_load_mid rfl (some 49) rfl 108 (.tmp 48) rfl g 3 rfl (ints .u32 a) _ hra Tryd.underlying108 rfl hia ?_
      refine hK.out _ _ (trivial) (fun hHeld => ?_)
      clear hK K
      (try simp only [Act.put, lsA, lsZ, lsS])
      refine tkY 8 (h := ?_)
      (try simp only [Act.put, lsA, lsZ, lsS])
      refine tkY 9 (h := ?_)
      (try simp only [Act.put, lsA, lsZ, lsS])
      refine tkR 10 (h := fun K hK => ?_)
      refine step_store_mid rfl rfl 108 (.tmp 52) (.tmp 45) rfl g 3 X.toList.toArray rfl rfl ht1 hsx hox ?_
      refine hK.out _ _ (trivial) (fun hHeld => ?_)
      clear hK K
      (try simp only [Act.put, lsA, lsZ, lsS])
      refine tkR 11 (h := fun K hK => ?_)
      refine step_store_mid rfl rfl 108 (.tmp 5) (.tmp 49) rfl w.heap.size 0 (ints .u32 a).toArray rfl rfl ht2 hsa hoa ?_
      refine hK.out _ _ (trivial) (fun hHeld => ?_)
      clear hK K
      (try simp only [Act.put, lsA, lsZ, lsS])
      refine tkY 12 (h := ?_)
      (try simp only [Act.put, lsA, lsZ, lsS])
      refine tkY 13 (h := ?_)
      (try simp only [Act.put, lsA, lsZ, lsS])
      refine tkY 14 (h := ?_)
      (try simp only [Act.put, lsA, lsZ, lsS])
      refine tkR 15 (h := fun K hK => ?_)
      go_simp
      refine hK.out _ _ (trivial) (fun hHeld => ?_)
      clear hK K
      (try simp only [Act.put, lsA, lsZ, lsS])
      refine wpAnyH_done (by kernel_rfl) ?_ _
      refine NoPanic.normal ?_
      obtain ⟨W3, hW3⟩ : ∃ W, W = (((W2.drew.setCells g 3 X.toList).setCells w.heap.size 0 (ints .u32 a)).setCell ⟨g, 0, none⟩ (.bool nb)) := ⟨_, rfl⟩
      have kg3 : Blk W3 g 128 (sumC nb e b) := by rw [hW3]; have h := kg2.set_ 0 (.bool nb); rwa [sum_turn] at h
      have kx3 : Blk W3 w.heap.size 108 (ints .u32 a).toArray := by rw [hW3]; exact (row_row (by rw [List.length_map, hXs, hn]) (Blk.farCells (show w.heap.size ≠ g by omega) _ _ _ _ kx2.drew)).far (p := ⟨g, 0, none⟩) (by show w.heap.size ≠ g; omega) (.bool nb)
      have hB3 : Below g w W3 := by rw [hW3]; exact (below_setCells (Nat.le_of_lt hgx) _ _ _ (below_setCells (Nat.le_refl _) _ _ _ (Below.drew hB2))).setCell (p := ⟨g, 0, none⟩) (Nat.le_refl _) (.bool nb)
      rw [← hW3]
      clear hW3 kg1 kg2 c9 f9 l9 ht1 ht2 hrx hra hix hia hsx hsa hoa hox k2 kx2 hB2 hHeld
      have hX1 : ∀ i, i < 74 → (ints .u32 a).toArray[i]? = some (.int .u32 ((a.getD i 0 : Nat) : Int)) := fun i hi => by simp only [List.getElem?_toArray]; exact ints_at .u32 (by omega)
      obtain ⟨X1, hX1e⟩ : ∃ X1, (ints .u32 a).toArray = X1 := ⟨_, rfl⟩
      rw [hX1e] at hX1 kx3
      have gA := Lib.hid hn2
      have gAb := Lib.hid hb
      have gBl := Lib.hid hn
      have gBb := Lib.hid ha
      clear hX1e hXc gX gR gnb hXs hn hn2 ha hb
      have xs : ∀ i, i < 74 → X1[i]? = some (.int .u32 ((a.getD i 0 : Nat) : Int)) := hX1
      go_wp2
      go_loopw [6, 56] (fun cy i wr => ∃ (j q : Nat) (N : List Nat), j ≤ 74 ∧ i = .int .i64 (j : Int) ∧ cy = .int .u32 (q : Int) ∧ q ≤ 1 ∧ Hid (N.length = 74) ∧ Hid (∀ x ∈ N, x < 4294967296) ∧ Hid (∀ i, j ≤ i → N.getD i 0 = b.getD i 0) ∧ Hid (pre 4294967296 b j + 4294967296 ^ j * q = pre 4294967296 N j + pre 4294967296 a j) ∧ Blk wr g 128 (sumC nb e N) ∧ Blk wr w.heap.size 108 X1 ∧ Below g w wr) (fun _ i _ => 74 - (intOf i).toNat)
      case atStart => exact ⟨0, 0, b, Nat.zero_le _, rfl, rfl, by omega, Lib.hid gA.out, Lib.hid gAb.out, Lib.hid (fun i _ => rfl), Lib.hid rfl, kg3, kx3, hB3⟩
      case round =>
        clear kg3 kx3 hB3
        obtain ⟨j, q, N, hj, rfl, rfl, hq, hNl, hNb, hNa, hv, hK, hKx, hB⟩ := hrel
        by_cases hlt : j < 74
        · have xa := getD_lt (B := 4294967296) (by omega) gAb.out j
          have xb := getD_lt (B := 4294967296) (by omega) gBb.out j
          have va := pre_succ 4294967296 b j
          have vb := pre_succ 4294967296 a j
          have zc : wr.cell? ⟨g, 3 + j, none⟩ = some (.int .u32 ((b.getD j 0 : Nat) : Int)) := by rw [hK.cell, sum_at nb e (by rw [hNl.out]; exact hlt), hNa.out j (Nat.le_refl _)]
          have zy : wr.cell? ⟨w.heap.size, j, none⟩ = some (.int .u32 ((a.getD j 0 : Nat) : Int)) := by rw [hKx.cell, xs j hlt]
          have zf := hK.frozen (3 + j)
          have zl := hK.lt
          obtain ⟨x, hx⟩ : ∃ x, b.getD j 0 = x := ⟨_, rfl⟩
          obtain ⟨y, hy⟩ : ∃ y, a.getD j 0 = y := ⟨_, rfl⟩
          rw [hx] at va xa zc
          rw [hy] at vb xb zy
          obtain ⟨d, hd⟩ : ∃ d, (x + 4294967296 - y - q) % 4294967296 = d := ⟨_, rfl⟩
          obtain ⟨r, hr⟩ : ∃ r, (if x < y + q then 1 else 0 : Nat) = r := ⟨_, rfl⟩
          have hsub := fun w => sub32 x y q xa xb hq w
          simp only [hd, hr] at hsub
          have hr1 : r ≤ 1 := by rw [← hr]; split <;> omega
          have he : x + 4294967296 * r = d + y + q := by rw [← hr, ← hd]; split <;> omega
          have hdl : d < 4294967296 := by rw [← hd]; exact Nat.mod_lt _ (by omega)
          have hv' : Hid (pre 4294967296 b (j + 1) + 4294967296 ^ (j + 1) * r = pre 4294967296 (N.set j d) (j + 1) + pre 4294967296 a (j + 1)) := Lib.hid (by
            rw [va, vb, pre_set_at (by rw [hNl.out]; exact hlt)]
            exact less_step he hv.out)
          have hNb' : Hid (∀ z ∈ N.set j d, z < 4294967296) := Lib.hid (by
            intro z hz
            rcases List.mem_or_eq_of_mem_set hz with h | h
            · exact hNb.out z h
            · omega)
          have hNl' : Hid ((N.set j d).length = 74) := Lib.hid (by rw [List.length_set]; exact hNl.out)
          have hNa' : Hid (∀ i, j + 1 ≤ i → (N.set j d).getD i 0 = b.getD i 0) := Lib.hid (fun i hi => by
            rw [List.getD_eq_getElem?_getD, List.getElem?_set, if_neg (by omega), ← List.getD_eq_getElem?_getD]
            exact hNa.out i (by omega))
          have hK' := hK.set_ (3 + j) (.int .u32 (d : Int))
          rw [sum_set] at hK'
          have hKx' := hKx.far (p := ⟨g, 3 + j, none⟩) (by show w.heap.size ≠ g; omega) (.int .u32 (d : Int))
          have hB' := hB.setCell (p := ⟨g, 3 + j, none⟩) (Nat.le_refl _) (.int .u32 (d : Int))
          have zyb : (wr.setCell ⟨g, 3 + j, none⟩ (.int .u32 (d : Int))).cell? ⟨w.heap.size, j, none⟩ = some (.int .u32 (y : Int)) := by rw [hKx'.cell, xs j hlt, hy]
          have i1 : (0 : Int) ≤ j := by omega
          have i2 : (j : Int) < 74 := by omega
          clear hx hy va vb hv hNl hNb hNa hd hr hK hKx hB he xs gA gAb gBb gle
          go_wp2_with fail
          refine wp_region_noPanic ?_
          refine wp_region_held_drew (S := fun w' => w'.cell? ⟨w.heap.size, j, none⟩ = some (.int .u32 (y : Int))) (by kernel_rfl) (zy) (fun hHeld => ?_)
          refine tkY 0 (h := ?_)
          (try simp only [Act.put, lsA, lsZ, lsS])
          refine tkY 1 (h := ?_)
          (try simp only [Act.put, lsA, lsZ, lsS])
          refine tkY 2 (h := ?_)
          (try simp only [Act.put, lsA, lsZ, lsS])
          refine tkY 3 (h := ?_)
          (try simp only [Act.put, lsA, lsZ, lsS])
          refine tkY 4 (h := ?_)
          (try simp only [Act.put, lsA, lsZ, lsS])
          refine tkY 5 (h := ?_)
          (try simp only [Act.put, lsA, lsZ, lsS])
          refine tkY 6 (h := ?_)
          (try simp only [Act.put, lsA, lsZ, lsS])
          refine tkY 8 (h := ?_)
          (try simp only [Act.put, lsA, lsZ, lsS])
          refine tkY 9 (h := ?_)
          (try simp only [Act.put, lsA, lsZ, lsS])
          refine tkY 10 (h := ?_)
          (try simp only [Act.put, lsA, lsZ, lsS])
          refine tkY 11 (h := ?_)
          (try simp only [Act.put, lsA, lsZ, lsS])
          refine tkY 16 (h := ?_)
          (try simp only [Act.put, lsA, lsZ, lsS])
          refine tkY 17 (h := ?_)
          (try simp only [Act.put, lsA, lsZ, lsS])
          refine tkR 7 (h := fun K hK => ?_)
          go_simp
          refine hK.out _ _ (zy) (fun hHeld => ?_)
          clear hK K
          (try simp only [Act.put, lsA, lsZ, lsS])
          refine tkR 12 (h := fun K hK => ?_)
          go_simp
          with_reducible refine (hsub _).mono ?_
          rintro e w' ⟨rfl, rfl⟩
          refine hK.out _ _ (zy) (fun hHeld => ?_)
          clear hK K
          (try simp only [Act.put, lsA, lsZ, lsS])
          refine tkY 13 (h := ?_)
          (try simp only [Act.put, lsA, lsZ, lsS])
          refine tkY 14 (h := ?_)
          (try simp only [Act.put, lsA, lsZ, lsS])
          refine tkY 15 (h := ?_)
          (try simp only [Act.put, lsA, lsZ, lsS])
          refine tkY 18 (h := ?_)
          (try simp only [Act.put, lsA, lsZ, lsS])
          refine tkR 19 (h := fun K hK => ?_)
          go_simp
          refine hK.out _ _ (zyb) (fun hHeld => ?_)
          clear hK K
          (try simp only [Act.put, lsA, lsZ, lsS])
          refine tkY 20 (h := ?_)
          (try simp only [Act.put, lsA, lsZ, lsS])
          refine wpAnyH_done (by kernel_rfl) ?_ _
          refine NoPanic.normal ?_
          go_wp2
          go_roundw
          case rel => exact ⟨j + 1, r, N.set j d, by omega, by go_num, rfl, hr1, hNl', hNb', hNa', hv', hK'.drew, hKx'.drew, hB'.drew⟩
          case measure => simp [intOf] <;> omega
        · obtain rfl : j = 74 := by omega
          have hv2 := hv.out
          have pN := pre_all 4294967296 N 74 (by rw [hNl.out]; exact Nat.le_refl _)
          have pA := pre_all 4294967296 b 74 (by rw [gA.out]; exact Nat.le_refl _)
          have pB := pre_all 4294967296 a 74 (by rw [gBl.out]; exact Nat.le_refl _)
          rw [pA, pB, pN] at hv2
          have hVN := val_lt hNb.out
          rw [hNl.out] at hVN
          have hle := gle.out
          have q0 : q = 0 := by
            rcases Nat.eq_zero_or_pos q with h | h
            · exact h
            · obtain rfl : q = 1 := by omega
              omega
          subst q0
          have gl := hNl.out
          have gb := hNb.out
          have hv3 : val 4294967296 N = val 4294967296 b - val 4294967296 a := by omega
          clear hNl hNb hNa hv hv2 hVN pN pA pB xs hKx gA gAb gBb gBl gle hle
          go_wp2
          go_end0
          exact ⟨rfl, N, hK, gl, gb, hv3, hB⟩
    · refine step_load_mid rfl (some 49) rfl 108 (.tmp 48) rfl g 3 rfl (ints .u32 a) _ hra Tryd.underlying108 rfl hia ?_
      refine hK.out _ _ (trivial) (fun hHeld => ?_)
      clear hK K
      (try simp only [Act.put, lsA, lsZ, lsS])
      refine tkR 2 (h := fun K hK => ?_)
      refine step_load_mid rfl (some 45) rfl 108 (.tmp 5) rfl w.heap.size 0 rfl X.toList _ hrx Tryd.underlying108 rfl hix ?_
      refine hK.out _ _ (trivial) (fun hHeld => ?_)
      clear hK K
      (try simp only [Act.put, lsA, lsZ, lsS])
      refine tkY 8 (h := ?_)
      (try simp only [Act.put, lsA, lsZ, lsS])
      refine tkY 9 (h := ?_)
      (try simp only [Act.put, lsA, lsZ, lsS])
      refine tkR 10 (h := fun K hK => ?_)
      refine step_store_mid rfl rfl 108 (.tmp 52) (.tmp 45) rfl g 3 X.toList.toArray rfl rfl ht1 hsx hox ?_
      refine hK.out _ _ (trivial) (fun hHeld => ?_)
      clear hK K
      (try simp only [Act.put, lsA, lsZ, lsS])
      refine tkR 11 (h := fun K hK => ?_)
      refine step_store_mid rfl rfl 108 (.tmp 5) (.tmp 49) rfl w.heap.size 0 (ints .u32 a).toArray rfl rfl ht2 hsa hoa ?_
      refine hK.out _ _ (trivial) (fun hHeld => ?_)
      clear hK K
      (try simp only [Act.put, lsA, lsZ, lsS])
      refine tkY 12 (h := ?_)
      (try simp only [Act.put, lsA, lsZ, lsS])
      refine tkY 13 (h := ?_)
      (try simp only [Act.put, lsA, lsZ, lsS])
      refine tkY 14 (h := ?_)
      (try simp only [Act.put, lsA, lsZ, lsS])
      refine tkR 15 (h := fun K hK => ?_)
      go_simp
      refine hK.out _ _ (trivial) (fun hHeld => ?_)
      clear hK K
      (try simp only [Act.put, lsA, lsZ, lsS])
      refine wpAnyH_done (by kernel_rfl) ?_ _
      refine NoPanic.normal ?_
      obtain ⟨W3, hW3⟩ : ∃ W, W = (((W2.drew.setCells g 3 X.toList).setCells w.heap.size 0 (ints .u32 a)).setCell ⟨g, 0, none⟩ (.bool nb)) := ⟨_, rfl⟩
      have kg3 : Blk W3 g 128 (sumC nb e b) := by rw [hW3]; have h := kg2.set_ 0 (.bool nb); rwa [sum_turn] at h
      have kx3 : Blk W3 w.heap.size 108 (ints .u32 a).toArray := by rw [hW3]; exact (row_row (by rw [List.length_map, hXs, hn]) (Blk.farCells (show w.heap.size ≠ g by omega) _ _ _ _ kx2.drew)).far (p := ⟨g, 0, none⟩) (by show w.heap.size ≠ g; omega) (.bool nb)
      have hB3 : Below g w W3 := by rw [hW3]; exact (below_setCells (Nat.le_of_lt hgx) _ _ _ (below_setCells (Nat.le_refl _) _ _ _ (Below.drew hB2))).setCell (p := ⟨g, 0, none⟩) (Nat.le_refl _) (.bool nb)
      rw [← hW3]
      clear hW3 kg1 kg2 c9 f9 l9 ht1 ht2 hrx hra hix hia hsx hsa hoa hox k2 kx2 hB2 hHeld
      have hX1 : ∀ i, i < 74 → (ints .u32 a).toArray[i]? = some (.int .u32 ((a.getD i 0 : Nat) : Int)) := fun i hi => by simp only [List.getElem?_toArray]; exact ints_at .u32 (by omega)
      obtain ⟨X1, hX1e⟩ : ∃ X1, (ints .u32 a).toArray = X1 := ⟨_, rfl⟩
      rw [hX1e] at hX1 kx3
      have gA := Lib.hid hn2
      have gAb := Lib.hid hb
      have gBl := Lib.hid hn
      have gBb := Lib.hid ha
      clear hX1e hXc gX gR gnb hXs hn hn2 ha hb
      have xs : ∀ i, i < 74 → X1[i]? = some (.int .u32 ((a.getD i 0 : Nat) : Int)) := hX1
      go_wp2
      go_loopw [6, 56] (fun cy i wr => ∃ (j q : Nat) (N : List Nat), j ≤ 74 ∧ i = .int .i64 (j : Int) ∧ cy = .int .u32 (q : Int) ∧ q ≤ 1 ∧ Hid (N.length = 74) ∧ Hid (∀ x ∈ N, x < 4294967296) ∧ Hid (∀ i, j ≤ i → N.getD i 0 = b.getD i 0) ∧ Hid (pre 4294967296 b j + 4294967296 ^ j * q = pre 4294967296 N j + pre 4294967296 a j) ∧ Blk wr g 128 (sumC nb e N) ∧ Blk wr w.heap.size 108 X1 ∧ Below g w wr) (fun _ i _ => 74 - (intOf i).toNat)
      case atStart => exact ⟨0, 0, b, Nat.zero_le _, rfl, rfl, by omega, Lib.hid gA.out, Lib.hid gAb.out, Lib.hid (fun i _ => rfl), Lib.hid rfl, kg3, kx3, hB3⟩
      case round =>
        clear kg3 kx3 hB3
        obtain ⟨j, q, N, hj, rfl, rfl, hq, hNl, hNb, hNa, hv, hK, hKx, hB⟩ := hrel
        by_cases hlt : j < 74
        · have xa := getD_lt (B := 4294967296) (by omega) gAb.out j
          have xb := getD_lt (B := 4294967296) (by omega) gBb.out j
          have va := pre_succ 4294967296 b j
          have vb := pre_succ 4294967296 a j
          have zc : wr.cell? ⟨g, 3 + j, none⟩ = some (.int .u32 ((b.getD j 0 : Nat) : Int)) := by rw [hK.cell, sum_at nb e (by rw [hNl.out]; exact hlt), hNa.out j (Nat.le_refl _)]
          have zy : wr.cell? ⟨w.heap.size, j, none⟩ = some (.int .u32 ((a.getD j 0 : Nat) : Int)) := by rw [hKx.cell, xs j hlt]
          have zf := hK.frozen (3 + j)
          have zl := hK.lt
          obtain ⟨x, hx⟩ : ∃ x, b.getD j 0 = x := ⟨_, rfl⟩
          obtain ⟨y, hy⟩ : ∃ y, a.getD j 0 = y := ⟨_, rfl⟩
          rw [hx] at va xa zc
          rw [hy] at vb xb zy
          obtain ⟨d, hd⟩ : ∃ d, (x + 4294967296 - y - q) % 4294967296 = d := ⟨_, rfl⟩
          obtain ⟨r, hr⟩ : ∃ r, (if x < y + q then 1 else 0 : Nat) = r := ⟨_, rfl⟩
          have hsub := fun w => sub32 x y q xa xb hq w
          simp only [hd, hr] at hsub
          have hr1 : r ≤ 1 := by rw [← hr]; split <;> omega
          have he : x + 4294967296 * r = d + y + q := by rw [← hr, ← hd]; split <;> omega
          have hdl : d < 4294967296 := by rw [← hd]; exact Nat.mod_lt _ (by omega)
          have hv' : Hid (pre 4294967296 b (j + 1) + 4294967296 ^ (j + 1) * r = pre 4294967296 (N.set j d) (j + 1) + pre 4294967296 a (j + 1)) := Lib.hid (by
            rw [va, vb, pre_set_at (by rw [hNl.out]; exact hlt)]
            exact less_step he hv.out)
          have hNb' : Hid (∀ z ∈ N.set j d, z < 4294967296) := Lib.hid (by
            intro z hz
            rcases List.mem_or_eq_of_mem_set hz with h | h
            · exact hNb.out z h
            · omega)
          have hNl' : Hid ((N.set j d).length = 74) := Lib.hid (by rw [List.length_set]; exact hNl.out)
          have hNa' : Hid (∀ i, j + 1 ≤ i → (N.set j d).getD i 0 = b.getD i 0) := Lib.hid (fun i hi => by
            rw [List.getD_eq_getElem?_getD, List.getElem?_set, if_neg (by omega), ← List.getD_eq_getElem?_getD]
            exact hNa.out i (by omega))
          have hK' := hK.set_ (3 + j) (.int .u32 (d : Int))
          rw [sum_set] at hK'
          have hKx' := hKx.far (p := ⟨g, 3 + j, none⟩) (by show w.heap.size ≠ g; omega) (.int .u32 (d : Int))
          have hB' := hB.setCell (p := ⟨g, 3 + j, none⟩) (Nat.le_refl _) (.int .u32 (d : Int))
          have zyb : (wr.setCell ⟨g, 3 + j, none⟩ (.int .u32 (d : Int))).cell? ⟨w.heap.size, j, none⟩ = some (.int .u32 (y : Int)) := by rw [hKx'.cell, xs j hlt, hy]
          have i1 : (0 : Int) ≤ j := by omega
          have i2 : (j : Int) < 74 := by omega
          clear hx hy va vb hv hNl hNb hNa hd hr hK hKx hB he xs gA gAb gBb gle
          go_wp2_with fail
          refine wp_region_noPanic ?_
          refine wp_region_held_drew (S := fun w' => w'.cell? ⟨w.heap.size, j, none⟩ = some (.int .u32 (y : Int))) (by kernel_rfl) (zy) (fun hHeld => ?_)
          refine tkY 0 (h := ?_)
          (try simp only [Act.put, lsA, lsZ, lsS])
          refine tkY 1 (h := ?_)
          (try simp only [Act.put, lsA, lsZ, lsS])
          refine tkY 2 (h := ?_)
          (try simp only [Act.put, lsA, lsZ, lsS])
          refine tkY 3 (h := ?_)
          (try simp only [Act.put, lsA, lsZ, lsS])
          refine tkY 4 (h := ?_)
          (try simp only [Act.put, lsA, lsZ, lsS])
          refine tkY 5 (h := ?_)
          (try simp only [Act.put, lsA, lsZ, lsS])
          refine tkY 6 (h := ?_)
          (try simp only [Act.put, lsA, lsZ, lsS])
          refine tkY 8 (h := ?_)
          (try simp only [Act.put, lsA, lsZ, lsS])
          refine tkY 9 (h := ?_)
          (try simp only [Act.put, lsA, lsZ, lsS])
          refine tkY 10 (h := ?_)
          (try simp only [Act.put, lsA, lsZ, lsS])
          refine tkY 11 (h := ?_)
          (try simp only [Act.put, lsA, lsZ, lsS])
          refine tkY 16 (h := ?_)
          (try simp only [Act.put, lsA, lsZ, lsS])
          refine tkY 17 (h := ?_)
          (try simp only [Act.put, lsA, lsZ, lsS])
          refine tkR 7 (h := fun K hK => ?_)
          go_simp
          refine hK.out _ _ (zy) (fun hHeld => ?_)
          clear hK K
          (try simp only [Act.put, lsA, lsZ, lsS])
          refine tkR 12 (h := fun K hK => ?_)
          go_simp
          with_reducible refine (hsub _).mono ?_
          rintro e w' ⟨rfl, rfl⟩
          refine hK.out _ _ (zy) (fun hHeld => ?_)
          clear hK K
          (try simp only [Act.put, lsA, lsZ, lsS])
          refine tkY 13 (h := ?_)
          (try simp only [Act.put, lsA, lsZ, lsS])
          refine tkY 14 (h := ?_)
          (try simp only [Act.put, lsA, lsZ, lsS])
          refine tkY 15 (h := ?_)
          (try simp only [Act.put, lsA, lsZ, lsS])
          refine tkY 18 (h := ?_)
          (try simp only [Act.put, lsA, lsZ, lsS])
          refine tkR 19 (h := fun K hK => ?_)
          go_simp
          refine hK.out _ _ (zyb) (fun hHeld => ?_)
          clear hK K
          (try simp only [Act.put, lsA, lsZ, lsS])
          refine tkY 20 (h := ?_)
          (try simp only [Act.put, lsA, lsZ, lsS])
          refine wpAnyH_done (by kernel_rfl) ?_ _
          refine NoPanic.normal ?_
          go_wp2
          go_roundw
          case rel => exact ⟨j + 1, r, N.set j d, by omega, by go_num, rfl, hr1, hNl', hNb', hNa', hv', hK'.drew, hKx'.drew, hB'.drew⟩
          case measure => simp [intOf] <;> omega
        · obtain rfl : j = 74 := by omega
          have hv2 := hv.out
          have pN := pre_all 4294967296 N 74 (by rw [hNl.out]; exact Nat.le_refl _)
          have pA := pre_all 4294967296 b 74 (by rw [gA.out]; exact Nat.le_refl _)
          have pB := pre_all 4294967296 a 74 (by rw [gBl.out]; exact Nat.le_refl _)
          rw [pA, pB, pN] at hv2
          have hVN := val_lt hNb.out
          rw [hNl.out] at hVN
          have hle := gle.out
          have q0 : q = 0 := by
            rcases Nat.eq_zero_or_pos q with h | h
            · exact h
            · obtain rfl : q = 1 := by omega
              omega
          subst q0
          have gl := hNl.out
          have gb := hNb.out
          have hv3 : val 4294967296 N = val 4294967296 b - val 4294967296 a := by omega
          clear hNl hNb hNa hv hv2 hVN pN pA pB xs hKx gA gAb gBb gBl gle hle
          go_wp2
          go_end0
          exact ⟨rfl, N, hK, gl, gb, hv3, hB⟩
end Go.Proofs.YtdmjdpaehnhdoaaDoor
