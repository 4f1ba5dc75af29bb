/- Flight: slices.Delete of one load -/
import Derived.Test.YtdmjdpaehnhdoaaDoorLY
namespace Go.Proofs.YtdmjdpaehnhdoaaDoor
open Go.ChangeShapes Go.WideShapes Go.ChangeAt Go.RowKit
set_option linter.unusedSimpArgs false
set_option linter.unusedVariables false
theorem zeroCells_mem {z : Array Value} (hz : 0 < z.size) {n : Nat} {v : Value} (h : v ∈ (Builtin.zeroCells z n).toList) : v ∈ z.toList := by
  simp only [Builtin.zeroCells, Array.toList_map, Array.toList_range, List.mem_map, List.mem_range] at h
  obtain ⟨a, _, rfl⟩ := h
  have ha : a % z.size < z.size := Nat.mod_lt _ hz
  rw [getElem!_pos z (a % z.size) ha]
  exact Array.mem_toList_iff.2 (Array.getElem_mem ha)
theorem zero15_one : ∀ v ∈ (Value.agg #[.int .i64 0, .int .i64 0, .int .i64 0, .bool false, .slice none 0 0, .int .i64 0, .bool false, .slice none 0 0, .int .i64 0, .bool false, .slice none 0 0, .int .i64 0, .bool false, .slice none 0 0, .int .i64 0]).cells.toList, v.oneCell' = true := by
  intro u hu
  exact List.all_eq_true.1 (show (Value.agg #[.int .i64 0, .int .i64 0, .int .i64 0, .bool false, .slice none 0 0, .int .i64 0, .bool false, .slice none 0 0, .int .i64 0, .bool false, .slice none 0 0, .int .i64 0, .bool false, .slice none 0 0, .int .i64 0]).cells.toList.all (fun v => v.oneCell') = true from rfl) u hu
/-- One load is cleared. -/
theorem run_clearE (w : World) (g k : Nat) (L : List Value) (hb : Blk w g 48 L.toArray) (hsz : k * 15 + 15 ≤ L.length) : ∃ Z : List Value, Z.length = 15 ∧ ∀ c ty, (Builtin.clear_ #[22] ty #[.slice (some ⟨g, k * 15, none⟩) 1 c]).run Tryd.prog w = .ok (.tuple #[]) (w.setRow g (lay L (k * 15) Z).toArray) := by
  obtain ⟨z, hz⟩ : ∃ z, z = (Value.agg #[.int .i64 0, .int .i64 0, .int .i64 0, .bool false, .slice none 0 0, .int .i64 0, .bool false, .slice none 0 0, .int .i64 0, .bool false, .slice none 0 0, .int .i64 0, .bool false, .slice none 0 0, .int .i64 0]) := ⟨_, rfl⟩
  have hv : ∀ w, (zeroValue 48).run Tryd.prog w = .ok z w := fun w => by rw [hz]; exact Tryd.zeroValue48 w
  have hzs : z.cells.size = 15 := by rw [hz]; rfl
  have h1 : ∀ v ∈ (Builtin.zeroCells z.cells 1).toList, v.oneCell' = true := fun v hm => zero15_one v (by rw [← hz]; exact zeroCells_mem (by omega) hm)
  have hl : (Builtin.zeroCells z.cells 1).toList.length = 15 := by rw [Array.length_toList, size_zeroCells, hzs]
  have hst := run_storeCells_at Tryd.prog g (k * 15) 48 _ 0 L.toArray w hb (by rw [hl]; simpa using hsz) h1
  simp only [Nat.add_zero] at hst
  obtain ⟨Z, hZ⟩ : ∃ Z, Z = (Builtin.zeroCells z.cells 1).toList := ⟨_, rfl⟩
  rw [← hZ] at hl hst
  refine ⟨Z, hl, fun c ty => ?_⟩
  clear hz hzs h1
  simp only [Builtin.clear_]
  simp [run_underlying Tryd.underlying22, hv, ← hZ, hst, lay]
theorem step_append_runI {P : Program} {ops : Array Oper} {o : Oper} {a : Act} {w : World} {K : Act → World → Prop} {Q : Exit → Act → World → Prop} {E : Prop}
    (hg : o.guard = none) (d x : Operand) (dT sT : TypeId) (hop : o.op = Op.call { callee := Callee.builtin Builtin.append, args := #[d, x], argTypes := #[dT, sT] })
    (v u : Value) (hd : a.eval d = v) (hx : a.eval x = u) {v' : Value} {w' : World} (hr : (Builtin.append_ #[dT, sT] o.type #[v, u]).run P w = .ok v' w') (hK : K (a.put o.dst v') w') :
    if Region.wanted o (yielded ops a.tmps) = true then Oper.wp P o a w K Q else E := by
  have hw : Region.wanted o (yielded ops a.tmps) = true := by simp [Region.wanted, hg]
  rw [if_pos hw]
  unfold Oper.wp
  simp [execOp, hop, resolve, invoke, builtin, hd, hx, hr, Result.andThen]
  exact hK
theorem wpList_clear_runI (w : World) {P : Program} {ops : Array Oper} {rest : List Oper} {o : Oper} {a : Act} {Q : Exit → Act → World → Prop} (hgd : o.guard = none) (d : Operand) (t : TypeId)
    (ho : o.op = .call { callee := .builtin .clear, args := #[d], argTypes := #[t] }) (v : Value) (hd : a.eval d = v) {v' : Value} {w' : World}
    (hr : (Builtin.clear_ #[t] o.type #[v]).run P w = .ok v' w') (h : wpList P ops Q rest (a.put o.dst v') w') : wpList P ops Q (o :: rest) a w := by
  refine wpList_plain hgd fun K hK => ?_
  unfold Oper.wp
  simp [execOp, ho, resolve, invoke, builtin, hd, hr, Result.andThen]
  exact hK _ _ h
/-- What Delete leaves. -/
def DelP (base m : Nat) (A : Option Addr) (c : Nat) (os : List EO) (W : World) (en : Ending) (w' : World) : Prop := en = .returned (.slice A m c) ∧ w'.ownsRow base 48 15 (.slice A m c) m (os.flatMap row15) ∧ Below base W w' ∧ Oth W w'
set_option maxRecDepth 100000 in
set_option maxHeartbeats 16000000 in
theorem edelete_any (base n c i g : Nat) (os : List EO) (hm : n ≤ 1000) (hi : i < n) (W : World) (ho : W.ownsRow base 48 15 (.slice (some ⟨g, 0, none⟩) n c) n (os.flatMap row15)) :
    Calls Tryd.prog 74 #[.slice (some ⟨g, 0, none⟩) n c, .int .i64 (i : Int), .int .i64 ((i : Int) + 1)] W (DelP base (n - 1) (some ⟨g, 0, none⟩) c (os.take i ++ os.drop (i + 1)) W) := by
  obtain ⟨i0, hi0, hz0, hz1, hz2⟩ := info_parts infoE
  obtain ⟨cur, hbg, hh, hnc, hcm, hcs, htk⟩ : ∃ cur : Array Value, base ≤ g ∧ Blk W g 48 cur ∧ n ≤ c ∧ c ≤ maxLen ∧ cur.size = c * 15 ∧ cur.toList.take (n * 15) = os.flatMap row15 := by
    rcases ho.2 with ⟨h0, _⟩ | ⟨g', cap, cur, h1, h2, h3, h4, h5, h6, h7⟩
    · cases h0
    · injection h1 with h8 _ h9
      injection h8 with h8
      injection h8 with h8
      subst h8 h9
      exact ⟨cur, h2, h3, h4, h5, h6, h7⟩
  obtain ⟨L, rfl⟩ : ∃ L : List Value, cur = L.toArray := ⟨cur.toList, by simp⟩
  simp only [List.size_toArray] at hcs
  simp only [] at htk
  have hol : os.length = n := by have := ho.1; rw [flat15_len] at this; omega
  have hxl : (os.flatMap row15).length = n * 15 := ho.1
  obtain ⟨xs, hxs⟩ : ∃ xs, xs = os.flatMap row15 := ⟨_, rfl⟩
  rw [← hxs] at htk hxl
  have hcell : ∀ j v, xs[j]? = some v → W.cell? ⟨g, j, none⟩ = some v := fun j v hj => by
    rw [← htk, List.getElem?_take] at hj
    rw [hh.cell]
    split at hj
    · simpa using hj
    · cases hj
  have h1x : ∀ v ∈ xs, v.oneCell' = true := by rw [hxs]; exact flat15_one os
  obtain ⟨ys, hys⟩ : ∃ ys, ys = xs.drop ((i + 1) * 15) := ⟨_, rfl⟩
  have hyl : ys.length = (n - (i + 1)) * 15 := by rw [hys, List.length_drop, hxl]; omega
  obtain ⟨W1, hW1⟩ : ∃ W1, W1 = W.drew.setRow g (lay L (i * 15) ys).toArray := ⟨_, rfl⟩
  have hll : (lay L (i * 15) ys).length = L.length := lay_len (by rw [hyl]; omega)
  have hap : ∀ ad : Addr, (i + 1 < n → ad = ⟨g, (i + 1) * 15, none⟩) → ∀ ty, (Builtin.append_ #[22, 22] ty #[.slice (some ⟨g, 0, none⟩) i c, .slice (some ad) (n - (i + 1)) (c - (i + 1))]).run Tryd.prog W.drew = .ok (.slice (some ⟨g, 0, none⟩) (n - 1) c) W1 := fun ad had ty => by
    have := run_append_room (P := Tryd.prog) W.drew 22 ty 48 i0 Tryd.underlying22 hi0 g i c L.toArray hh ad (n - (i + 1)) (c - (i + 1)) ys (by rw [hz1, hyl])
      (fun j v hj => by
        have hlt : j < ys.length := (List.getElem?_eq_some_iff.1 hj).1
        rw [had (by omega), Addr.add_lit]; exact hcell ((i + 1) * 15 + j) v (by rwa [hys, List.getElem?_drop] at hj)) (fun v hv => h1x v (List.mem_of_mem_drop (by rw [← hys]; exact hv)))
      (by omega) (by rw [hz1, hyl]; simp only [List.size_toArray]; omega)
    rw [this, hW1, hz1, show i + (n - (i + 1)) = n - 1 by omega]
    rfl
  have hb1 : Blk W1 g 48 (lay L (i * 15) ys).toArray := by rw [hW1]; exact blk_setRow hh.drew
  obtain ⟨Z, hZl, hcl⟩ := run_clearE W1 g (n - 1) (lay L (i * 15) ys) hb1 (by rw [hll]; omega)
  have hfin : (lay (lay L (i * 15) ys) ((n - 1) * 15) Z).take ((n - 1) * 15) = xs.take (i * 15) ++ ys := by
    rw [lay_take (by rw [hll, hZl]; omega) (Nat.le_refl _), lay_all (by rw [hyl]; omega) (by rw [hyl]; omega), ← htk, List.take_take, Nat.min_eq_left (by omega)]
  have gO : Hid ((W1.setRow g (lay (lay L (i * 15) ys) ((n - 1) * 15) Z).toArray).ownsRow base 48 15 (.slice (some ⟨g, 0, none⟩) (n - 1) c) (n - 1) ((os.take i ++ os.drop (i + 1)).flatMap row15)) := Lib.hid (by
    refine ⟨by rw [flat15_len]; simp [hol]; omega, .inr ⟨g, c, _, rfl, hbg, blk_setRow hb1, by omega, hcm, by simp only [List.size_toArray]; rw [lay_len (by rw [hll, hZl]; omega), hll]; exact hcs, ?_⟩⟩
    rw [hfin, List.flatMap_append, ← flat15_take, ← flat15_drop, ← hxs, ← hys])
  have gB : Hid (Below base W (W1.setRow g (lay (lay L (i * 15) ys) ((n - 1) * 15) Z).toArray) ∧ Oth W (W1.setRow g (lay (lay L (i * 15) ys) ((n - 1) * 15) Z).toArray)) := Lib.hid (by
    rw [hW1] at hb1 ⊢
    exact ⟨below_setRow (below_setRow ((Below.refl _ _).drew) hbg _) hbg _, ((Oth.refl W).drew.setRow hh.drew _).setRow hb1 _⟩)
  have hp1 : (⟨g, 0, none⟩ : Addr).add ((i + 1) * 15) = ⟨g, (i + 1) * 15, none⟩ := by rw [Addr.add_lit, Nat.zero_add]
  have hp2 : (⟨g, 0, none⟩ : Addr).add (i * 15) = ⟨g, i * 15, none⟩ := by rw [Addr.add_lit, Nat.zero_add]
  have hp3 : (⟨g, 0, none⟩ : Addr).add ((n - 1) * 15) = ⟨g, (n - 1) * 15, none⟩ := by rw [Addr.add_lit, Nat.zero_add]
  obtain ⟨n1, hn1⟩ : ∃ n1, n1 = n - 1 := ⟨_, rfl⟩
  have a1 : (0 : Int) ≤ (i : Int) + 1 := by omega
  have a3 : ((i : Int) + 1).toNat = i + 1 := by omega
  have a6 : ¬ c = n1 := by omega
  have a6b : ¬ c = i := by omega
  have a7 : (i : Int) + 1 ≤ (n : Int) := by omega
  have a8 : (n : Int) ≤ c := by omega
  have a9 : ((i : Int) == (i : Int) + 1) = false := beq_eq_false_iff_ne.2 (by omega)
  have a10 : (i : Int) ≤ (n : Int) := by omega
  have a11 : (i : Int) ≤ (i : Int) + 1 := by omega
  have a12 : (n1 : Int) ≤ n := by omega
  have a13 : (i : Int) ≤ c := by omega
  have a14 : (n1 : Int) ≤ c := by omega
  have a15 : n - n1 = 1 := by omega
  have mixed : Tryd.prog.follows Departure.mixedOrders = true := by kernel_rfl
  have hin : i + 1 < n → c ≠ i + 1 := by omega
  rw [← hn1] at hap hcl hp3 gO gB ⊢
  clear hn1 hW1 hys hxs hfin hll hyl h1x hcell hb1 hxl hol htk hcs hh ho hi0 hz0 hz1 hz2 hZl
  unfold maxLen at hcm
  by_cases hc : c = i + 1
  · have hap1 := hap ⟨g, 0, none⟩ (fun h => absurd hc (hin h))
    obtain rfl : n = i + 1 := by omega
    subst hc
    simp only [Nat.sub_self] at hap1
    clear hap hin
    go_enter Tryd.func74, Tryd.ntmps74
    go_wp2
    go_region_law_o (refine step_append_runI rfl _ _ 22 22 rfl _ _ (by simp [Act.eval, Act.put]) (by simp [Act.eval, Act.put]) (hap1 _) ?_)
    go_wp2_with (at_builtin; refine wpList_clear_runI _ rfl _ 22 rfl _ rfl (hcl _ _) ?_)
    go_ret
    exact ⟨rfl, gO.out, gB.out⟩
  · have hap1 := hap ⟨g, (i + 1) * 15, none⟩ (fun _ => rfl)
    clear hap hin
    go_enter Tryd.func74, Tryd.ntmps74
    go_wp2
    go_region_law_o (refine step_append_runI rfl _ _ 22 22 rfl _ _ (by simp [Act.eval, Act.put]) (by simp [Act.eval, Act.put]) (hap1 _) ?_)
    go_wp2_with (at_builtin; refine wpList_clear_runI _ rfl _ 22 rfl _ rfl (hcl _ _) ?_)
    go_ret
    exact ⟨rfl, gO.out, gB.out⟩
end Go.Proofs.YtdmjdpaehnhdoaaDoor
