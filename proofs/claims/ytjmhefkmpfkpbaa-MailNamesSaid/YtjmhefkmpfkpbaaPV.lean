/- Mail: mail's reader: a dyad taken -/
import Derived.Test.YtjmhefkmpfkpbaaF
import Derived.Test.YtjmhefkmpfkpbaaMB
namespace Go.Proofs.Ytjmhefkmpfkpbaa
open Go.ChangeShapes Go.WideShapes Go.ChangeAt Go.RowKit
set_option linter.unusedSimpArgs false
set_option linter.unusedVariables false
/-- The dyad that lies at a place. -/
def dyO (l : List Int) (p : Nat) : Dy := ⟨vN l p == 1, (limbsOf l p (vM l p)).map Int.toNat, vX l p⟩
/-- The next dyad, and what is left. -/
def rD (l : List Int) (st : Option Nat) : Option Nat × Dy :=
  match st with
  | none => (none, ⟨false, [], 0⟩)
  | some p => if dyE l (p : Int) = 0 then (some (p + 4 + 4 * vM l p), dyO l p) else (none, ⟨false, [], 0⟩)
def RdyP (w : World) (g : Nat) (A : Option Addr) (n c : Nat) (st : Option Nat) (d : Dy) (en : Ending) (w' : World) : Prop := ∃ X cc, en = .returned (.agg #[.bool d.neg, .slice X d.ls.length cc, .int .i64 d.ex]) ∧ d.ls.length ≤ cc ∧ OwnR w' w.heap.size 52 X d.ls.length (ints .u32 d.ls) ∧ Rdb w' g A n c st ∧ Only g w w'
set_option maxRecDepth 100000 in
set_option maxHeartbeats 8000000 in
theorem rdy_none (g n c : Nat) (A : Option Addr) (w : World) (hk : Blk w g 69 #[.slice none 0 0, .int .i64 0, .bool true]) : Calls Try.prog 34 #[.pointer (some ⟨g, 0, none⟩)] w (RdyP w g A n c none ⟨false, [], 0⟩) := by
  obtain ⟨V, hV⟩ : ∃ V, V = w.alloc (.cells #[.bool false, .slice none 0 0, .int .i64 0] 24) := ⟨_, rfl⟩
  have hB : Below w.heap.size w V := by rw [hV]; exact (Below.refl _ _).alloc (Nat.le_refl _) _
  have kb : Blk V w.heap.size 24 #[.bool false, .slice none 0 0, .int .i64 0] := by rw [hV]; exact Blk.new _ _ _
  have k1 := hk.below hB hk.lt
  have hlt := hk.lt
  have a2 := k1.cell 2
  simp only [List.getElem?_toArray, List.getElem?_cons_zero, List.getElem?_cons_succ] at a2
  have kf := kb.setRow #[.bool false, .slice none 0 0, .int .i64 0]
  have k2 := k1.setRow_far (k := w.heap.size) (by omega) #[.bool false, .slice none 0 0, .int .i64 0]
  have hO : Only g w (V.setRow w.heap.size #[.bool false, .slice none 0 0, .int .i64 0]) := Only.of_below (below_setRow (g := w.heap.size) hB (Nat.le_refl _) _)
  go_enter Try.func34, Try.ntmps34
  go_upto_region 1 with (fail)
  rw [← hV]
  clear hV
  go_wp2_with (refine wpList_store_row rfl 24 _ _ rfl w.heap.size #[.bool false, .slice none 0 0, .int .i64 0] rfl rfl 24 #[.bool false, .slice none 0 0, .int .i64 0] kb.row (by kernel_rfl) rfl (by simp [Value.oneCell']) ?_)
  (try simp only [Exit.inBlock, Exit.then])
  refine bodyPost_ret (results_cell_row rfl _ _ w.heap.size 24 #[.bool false, .slice none 0 0, .int .i64 0] (0, 0) _ rfl kf.row Try.underlying24 rfl (by kernel_rfl)) rfl ?_
  exact ⟨none, 0, rfl, Nat.le_refl _, OwnR.none_, k2, hO⟩
set_option maxRecDepth 100000 in
set_option maxHeartbeats 8000000 in
theorem rdy_some (g : Nat) (A : Option Addr) (n c p : Nat) (st : Option Nat) (E : Int) (R : Value) (A2 : Option Addr) (n2 c2 : Nat) (p2 : Int) (W2 : Bool) (hW2 : (E != 0) = W2) (hR : R = .agg #[.slice A2 n2 c2, .int .i64 p2]) (hst : ∀ w', Blk w' g 69 #[.slice A2 n2 c2, .int .i64 p2, .bool W2] → Rdb w' g A n c st)
    (d : Dy) (hsm : d.ls.length ≤ 100000) (w : World) (hk : Blk w g 69 #[.slice A n c, .int .i64 (p : Int), .bool false])
    (hc : ∀ V, Below w.heap.size w V → Calls Try.prog 68 #[.agg #[.slice A n c, .int .i64 (p : Int)]] V fun en w' => (∃ Al cl, en = .returned (.tuple #[R, .agg #[.bool d.neg, .slice Al d.ls.length cl, .int .i64 d.ex], .int .i64 E]) ∧ OwnR w' V.heap.size 52 Al d.ls.length (ints .u32 d.ls)) ∧ Below V.heap.size V w') :
    Calls Try.prog 34 #[.pointer (some ⟨g, 0, none⟩)] w (RdyP w g A n c st d) := by
  subst hR
  obtain ⟨V, hV⟩ : ∃ V, V = w.alloc (.cells #[.bool false, .slice none 0 0, .int .i64 0] 24) := ⟨_, rfl⟩
  have hB : Below w.heap.size w V := by rw [hV]; exact (Below.refl _ _).alloc (Nat.le_refl _) _
  have kb : Blk V w.heap.size 24 #[.bool false, .slice none 0 0, .int .i64 0] := by rw [hV]; exact Blk.new _ _ _
  have k1 := hk.below hB hk.lt
  have hlt := hk.lt
  have a0 := k1.cell 0
  have a1 := k1.cell 1
  have a2 := k1.cell 2
  simp only [List.getElem?_toArray, List.getElem?_cons_zero, List.getElem?_cons_succ] at a0 a1 a2
  have hc' := hc V hB
  clear hc
  have hVs : w.heap.size < V.heap.size := kb.lt
  go_enter Try.func34, Try.ntmps34
  go_upto_region 1 with (fail)
  rw [← hV]
  clear hV
  go_wp2_with fail
  refine hc'.mono ?_
  rintro en w1 ⟨⟨Al, cl, rfl, hrd⟩, hb1⟩
  have s1 := hb1.size
  obtain ⟨U, hU⟩ : ∃ U, U = (w1.alloc (.cells #[.slice A2 n2 c2, .int .i64 p2] 67)).alloc (.cells #[.bool d.neg, .slice Al d.ls.length cl, .int .i64 d.ex] 24) := ⟨_, rfl⟩
  have hbU : Below w1.heap.size w1 U := by rw [hU]; exact ((Below.refl _ _).alloc (Nat.le_refl _) _).alloc (by simp) _
  have ku : Blk U w1.heap.size 67 #[.slice A2 n2 c2, .int .i64 p2] := by rw [hU]; exact (Blk.new _ _ _).alloc _
  have kd : Blk U (w1.heap.size + 1) 24 #[.bool d.neg, .slice Al d.ls.length cl, .int .i64 d.ex] := by rw [hU]; simpa using Blk.new (w1.alloc (.cells #[.slice A2 n2 c2, .int .i64 p2] 67)) 24 #[.bool d.neg, .slice Al d.ls.length cl, .int .i64 d.ex]
  have k2 := (k1.below hb1 k1.lt).below hbU (Nat.lt_of_lt_of_le k1.lt hb1.size)
  have kb2 := (kb.below hb1 kb.lt).below hbU (Nat.lt_of_lt_of_le kb.lt hb1.size)
  have gr := Lib.hid (hrd.below hbU)
  have gO := Lib.hid ((Only.of_below (g := g) hB).trans ((Only.of_below hb1).trans (Only.of_below hbU)))
  go_upto_region 4 with (fail)
  rw [← hU]
  have sU := hbU.size
  clear hU hbU hrd hb1 a0 a1 a2 k1 kb hc' hB
  have b0 := k2.cell 0
  have b1 := k2.cell 1
  have b2 := k2.cell 2
  have bf0 := k2.frozen 0
  have bf1 := k2.frozen 1
  have bf2 := k2.frozen 2
  have u0 := ku.cell 0
  have u1 := ku.cell 1
  simp only [List.getElem?_toArray, List.getElem?_cons_zero, List.getElem?_cons_succ] at b0 b1 b2 u0 u1
  obtain ⟨X3, hX3⟩ : ∃ X, X = ((U.setCell ⟨g, 0, none⟩ (.slice A2 n2 c2)).setCell ⟨g, 1, none⟩ (.int .i64 p2)).setCell ⟨g, 2, none⟩ (.bool W2) := ⟨_, rfl⟩
  have kr3 : Blk X3 g 69 #[.slice A2 n2 c2, .int .i64 p2, .bool W2] := by
    have k3 := ((k2.set_ 0 (.slice A2 n2 c2)).set_ 1 (.int .i64 p2)).set_ 2 (.bool W2)
    simp at k3
    rw [hX3]; exact k3
  have kd3 : Blk X3 (w1.heap.size + 1) 24 #[.bool d.neg, .slice Al d.ls.length cl, .int .i64 d.ex] := by rw [hX3]; exact ((kd.far (p := ⟨g, 0, none⟩) (by show w1.heap.size + 1 ≠ g; omega) _).far (p := ⟨g, 1, none⟩) (by show w1.heap.size + 1 ≠ g; omega) _).far (p := ⟨g, 2, none⟩) (by show w1.heap.size + 1 ≠ g; omega) _
  have kb3 : Blk X3 w.heap.size 24 #[.bool false, .slice none 0 0, .int .i64 0] := by rw [hX3]; exact ((kb2.far (p := ⟨g, 0, none⟩) (by show w.heap.size ≠ g; omega) _).far (p := ⟨g, 1, none⟩) (by show w.heap.size ≠ g; omega) _).far (p := ⟨g, 2, none⟩) (by show w.heap.size ≠ g; omega) _
  have hO3 : Only g w X3 := by rw [hX3]; exact ((gO.out.trans (Only.set_ _ _ _ _)).trans (Only.set_ _ _ _ _)).trans (Only.set_ _ _ _ _)
  have s3 : X3.heap.size = U.heap.size := by rw [hX3]; simp
  have hr3 : Reads X3 X3.heap.size 1 Al d.ls.length (ints .u32 d.ls) := by rw [hX3]; exact (((gr.out.far (p := ⟨g, 0, none⟩) (by show g < V.heap.size; omega) _).far (p := ⟨g, 1, none⟩) (by show g < V.heap.size; omega) _).far (p := ⟨g, 2, none⟩) (by show g < V.heap.size; omega) _).reads
  have ht := dtwin_any d.neg Al d.ls.length cl d.ex d.ls rfl hsm X3 hr3
  clear k2 kd kb2 ku
  go_upto_region 5 with (fail)
  rw [← hX3]
  have d0 := kd3.cell 0
  have d1 := kd3.cell 1
  have d2 := kd3.cell 2
  simp only [List.getElem?_toArray, List.getElem?_cons_zero, List.getElem?_cons_succ] at d0 d1 d2
  have gk3 := Lib.hid kr3
  have gb3 := Lib.hid kb3
  have gO3 := Lib.hid hO3
  clear hX3 kd3 kr3 kb3 hO3 hr3 gr gO b0 b1 b2 bf0 bf1 bf2 u0 u1
  go_wp2_with fail
  refine ht.mono ?_
  rintro en w5 ⟨Ao, co, rfl, hco, ho5, hb5⟩
  have k5 := gb3.out.below hb5 gb3.out.lt
  have kf := k5.setRow #[.bool d.neg, .slice Ao d.ls.length co, .int .i64 d.ex]
  have gk5 := Lib.hid ((gk3.out.below hb5 gk3.out.lt).setRow_far (k := w.heap.size) (by omega) #[.bool d.neg, .slice Ao d.ls.length co, .int .i64 d.ex])
  have hz : X3.heap.size ≤ w5.heap.size := hb5.size
  have gO5 : Hid (Only g w (w5.setRow w.heap.size #[.bool d.neg, .slice Ao d.ls.length co, .int .i64 d.ex])) := Lib.hid ⟨(below_setRow (g := w.heap.size) ((gO3.out.trans (Only.of_below hb5)).1) (Nat.zero_le _) _), fun b hb1 hb2 => by rw [setRow_other _ _ _ _ (by omega)]; exact (gO3.out.trans (Only.of_below hb5)).2 b hb1 hb2⟩
  have gow : Hid (OwnR (w5.setRow w.heap.size #[.bool d.neg, .slice Ao d.ls.length co, .int .i64 d.ex]) w.heap.size 52 Ao d.ls.length (ints .u32 d.ls)) := Lib.hid ⟨ho5.1, fun h0 => by
    obtain ⟨g', cur, e1, e2, e3, e4⟩ := ho5.2 h0
    exact ⟨g', cur, e1, by omega, Blk.setRow_far e3 (by omega) _, e4⟩⟩
  clear ht d0 d1 d2 hb5 ho5 gk3 gb3 gO3
  go_wp2_with (refine wpList_store_row rfl 24 _ _ rfl w.heap.size #[.bool d.neg, .slice Ao d.ls.length co, .int .i64 d.ex] rfl rfl 24 #[.bool false, .slice none 0 0, .int .i64 0] k5.row (by kernel_rfl) rfl (by simp [Value.oneCell']) ?_)
  (try simp only [Exit.inBlock, Exit.then])
  refine bodyPost_ret (results_cell_row rfl _ _ w.heap.size 24 #[.bool d.neg, .slice Ao d.ls.length co, .int .i64 d.ex] (0, 0) _ rfl kf.row Try.underlying24 rfl (by kernel_rfl)) rfl ?_
  exact ⟨Ao, co, rfl, hco, gow.out, hst _ gk5.out, gO5.out⟩
theorem rD_lt {l : List Int} (hb : ∀ b ∈ l, 0 ≤ b ∧ b < 256) (st : Option Nat) : (rD l st).2.ls.length ≤ 255 ∧ ∀ x ∈ (rD l st).2.ls, x < 4294967296 := by
  unfold rD
  cases st with
  | none => exact ⟨by simp, by simp⟩
  | some q =>
    simp only
    split
    · refine ⟨?_, fun x hx => ?_⟩
      · simp only [dyO, List.length_map, limbs_len]
        have := part_range hb (q + 3) 1
        unfold vM
        omega
      · simp only [dyO, limbsOf, List.mem_map, List.mem_range] at hx
        obtain ⟨z, ⟨k, _, rfl⟩, rfl⟩ := hx
        have := part_range hb (q + 4 + 4 * k) 4
        unfold limbAt
        omega
    · exact ⟨by simp, by simp⟩
theorem rdy_any (g : Nat) (A : Option Addr) (n c : Nat) (l : List Int) (hn : l.length = n) (hb : ∀ b ∈ l, 0 ≤ b ∧ b < 256) (hm : n ≤ 100000) (hnc : n ≤ c) (st : Option Nat) (w : World) (hk : Rdb w g A n c st) (hR : Reads w w.heap.size 1 A n (u8s l)) :
    Calls Try.prog 34 #[.pointer (some ⟨g, 0, none⟩)] w (RdyP w g A n c (rD l st).1 (rD l st).2) := by
  cases st with
  | none => exact rdy_none g n c A w hk
  | some p =>
    have hlt := rD_lt hb (some p)
    by_cases hE : dyE l (p : Int) = 0
    · have e : rD l (some p) = (some (p + 4 + 4 * vM l p), dyO l p) := if_pos hE
      rw [e] at hlt ⊢
      refine rdy_some g A n c p (some (p + 4 + 4 * vM l p)) 0 _ A n c ((p : Int) + 4 + 4 * (vM l p : Int)) false rfl rfl (fun w' h => ?_) (dyO l p) (by have := hlt.1; simp only at this; omega) w hk (fun V hV => ?_)
      · show Blk w' g _ #[.slice A n c, .int .i64 ((p + 4 + 4 * vM l p : Nat) : Int), .bool false]
        rw [show ((p + 4 + 4 * vM l p : Nat) : Int) = (p : Int) + 4 + 4 * (vM l p : Int) by omega]
        exact h
      · refine (dyad_any A n c l hn hb hm hnc p 0 hE V ((hR.below hV).more hV.size)).mono ?_
        rintro en w' ⟨hb', ⟨h0, _⟩ | ⟨_, Al, cl, rfl, ho⟩⟩
        · exact absurd h0 (by decide)
        · have hlen : (dyO l p).ls.length = vM l p := by simp [dyO, limbs_len]
          have hu : u32s (limbsOf l p (vM l p)) = ints .u32 (dyO l p).ls := by
            unfold u32s dyO
            refine ints_of (fun z hz => ?_)
            simp only [limbsOf, List.mem_map, List.mem_range] at hz
            obtain ⟨k, _, rfl⟩ := hz
            exact (part_range hb (p + 4 + 4 * k) 4).1
          simp only [Int.toNat_natCast] at ho ⊢
          refine ⟨⟨Al, cl, by rw [hlen]; rfl, ?_⟩, hb'⟩
          rw [← hu, hlen]
          exact OwnR.of_row ho
    · have e : rD l (some p) = (none, ⟨false, [], 0⟩) := if_neg hE
      rw [e]
      refine rdy_some g A n c p none (dyE l p) _ none 0 0 0 true (by simpa using hE) rfl (fun w' h => h) ⟨false, [], 0⟩ (by simp) w hk (fun V hV => ?_)
      refine (dyad_any A n c l hn hb hm hnc p _ rfl V ((hR.below hV).more hV.size)).mono ?_
      rintro en w' ⟨hb', ⟨_, rfl⟩ | ⟨h0, _⟩⟩
      · exact ⟨⟨none, 0, rfl, OwnR.none_⟩, hb'⟩
      · exact absurd h0 hE
end Go.Proofs.Ytjmhefkmpfkpbaa
