/- Mail: MailBursts' walk -/
import Derived.Test.YtjmhefkmpfkpbaaRAB
import Derived.Test.YtjmhefkmpfkpbaaBurstsP
import Derived.IntWalk
namespace Go.Proofs.Ytjmhefkmpfkpbaa
open Go.ChangeShapes Go.WideShapes Go.ChangeAt Go.RowKit
set_option linter.unusedSimpArgs false
set_option linter.unusedVariables false
theorem bytes_set (l : List Nat) (i b : Nat) : (bytes l).set i (.int .u8 (b : Int)) = bytes (l.set i b) := by simp [bytes, List.map_set]
theorem bytes_at {l : List Nat} {i : Nat} (h : i < l.length) : (bytes l)[i]? = some (.int .u8 ((l.getD i 0 : Nat) : Int)) := by simp [List.getElem?_eq_getElem h]
set_option maxRecDepth 100000 in
set_option maxHeartbeats 32000000 in
theorem bursts_walk (a : MO) (la : ltL a.x) (hka : 0 ≤ a.x.kd ∧ a.x.kd < 256) (at_ : Int) (mask : Nat) (hmk : mask < 4294967296) (w : World) (ra : rdL w w.heap.size a) : Calls Try.prog 7 #[aggL a, .int .i64 at_, .int .u32 (mask : Int)] w fun en w' => en = .returned (.bool true) ∧ Below w.heap.size w w' := by
  obtain ⟨V, hV⟩ : ∃ V, V = w.alloc (.cells #[.int .u8 a.x.kd, .int .i64 a.x.fr, .int .i64 a.x.tt, .int .i64 a.x.ep, .int .i64 a.x.nu, .int .i64 a.x.ab, .bool a.x.give.s.neg, .slice a.X0 a.x.give.s.ls.length a.c0, .int .i64 a.x.give.s.ex, .bool a.x.give.w.neg, .slice a.X1 a.x.give.w.ls.length a.c1, .int .i64 a.x.give.w.ex, .bool a.x.give.c.neg, .slice a.X2 a.x.give.c.ls.length a.c2, .int .i64 a.x.give.c.ex, .bool a.x.give.a.neg, .slice a.X3 a.x.give.a.ls.length a.c3, .int .i64 a.x.give.a.ex, .bool a.x.wa, .slice a.D a.x.ds.length a.dc, .bool a.x.eh, .int .i64 a.x.e1, .int .i64 a.x.e2, .slice a.L a.x.ls.length a.lc] 31) := ⟨_, rfl⟩
  have gB : Hid (Below w.heap.size w V) := Lib.hid (by rw [hV]; exact (Below.refl _ _).alloc (Nat.le_refl _) _)
  have ka : Hid (Blk V w.heap.size 31 #[.int .u8 a.x.kd, .int .i64 a.x.fr, .int .i64 a.x.tt, .int .i64 a.x.ep, .int .i64 a.x.nu, .int .i64 a.x.ab, .bool a.x.give.s.neg, .slice a.X0 a.x.give.s.ls.length a.c0, .int .i64 a.x.give.s.ex, .bool a.x.give.w.neg, .slice a.X1 a.x.give.w.ls.length a.c1, .int .i64 a.x.give.w.ex, .bool a.x.give.c.neg, .slice a.X2 a.x.give.c.ls.length a.c2, .int .i64 a.x.give.c.ex, .bool a.x.give.a.neg, .slice a.X3 a.x.give.a.ls.length a.c3, .int .i64 a.x.give.a.ex, .bool a.x.wa, .slice a.D a.x.ds.length a.dc, .bool a.x.eh, .int .i64 a.x.e1, .int .i64 a.x.e2, .slice a.L a.x.ls.length a.lc]) := Lib.hid (by rw [hV]; exact Blk.new w _ _)
  unfold aggL
  go_enter Try.func7, Try.ntmps7
  go_upto_region 1 with (fail)
  rw [← hV]
  clear hV
  have sV0 := ka.out.lt
  go_wp2_with fail
  refine (malive_any V).mono ?_
  rintro en w1 ⟨rfl, hb⟩
  replace ka := Lib.hid (ka.out.below hb ka.out.lt)
  replace gB := Lib.hid (gB.out.trans (hb.mono gB.out.size))
  have sw1 := hb.size
  clear hb
  obtain ⟨Q, hQ⟩ : ∃ Q, grL a.x = Q := ⟨_, rfl⟩
  have hg := lgreat_any a w1 Q hQ
  unfold aggL at hg
  have k1 := ka.out
  go_wp2_with (refine wpList_load_row rfl 31 _ rfl w.heap.size rfl 31 #[.int .u8 a.x.kd, .int .i64 a.x.fr, .int .i64 a.x.tt, .int .i64 a.x.ep, .int .i64 a.x.nu, .int .i64 a.x.ab, .bool a.x.give.s.neg, .slice a.X0 a.x.give.s.ls.length a.c0, .int .i64 a.x.give.s.ex, .bool a.x.give.w.neg, .slice a.X1 a.x.give.w.ls.length a.c1, .int .i64 a.x.give.w.ex, .bool a.x.give.c.neg, .slice a.X2 a.x.give.c.ls.length a.c2, .int .i64 a.x.give.c.ex, .bool a.x.give.a.neg, .slice a.X3 a.x.give.a.ls.length a.c3, .int .i64 a.x.give.a.ex, .bool a.x.wa, .slice a.D a.x.ds.length a.dc, .bool a.x.eh, .int .i64 a.x.e1, .int .i64 a.x.e2, .slice a.L a.x.ls.length a.lc] (0, 0) _ k1.row Try.underlying31 rfl (by kernel_rfl) ?_)
  refine hg.mono ?_
  rintro en w2 ⟨rfl, hb⟩
  replace ka := Lib.hid (ka.out.below hb ka.out.lt)
  replace gB := Lib.hid (gB.out.trans (hb.mono gB.out.size))
  have sw2 := hb.size
  clear hb hg k1
  cases Q with
  | true =>
    go_wp2
    go_ret
    exact ⟨rfl, gB.out⟩
  | false =>
    have hsa := grL_sm hQ
    clear hQ
    have hw := write_any a hsa la hka w2 (ra.below gB.out gB.out.size)
    unfold aggL at hw
    have k1 := ka.out
    go_wp2_with (refine wpList_load_row rfl 31 _ rfl w.heap.size rfl 31 #[.int .u8 a.x.kd, .int .i64 a.x.fr, .int .i64 a.x.tt, .int .i64 a.x.ep, .int .i64 a.x.nu, .int .i64 a.x.ab, .bool a.x.give.s.neg, .slice a.X0 a.x.give.s.ls.length a.c0, .int .i64 a.x.give.s.ex, .bool a.x.give.w.neg, .slice a.X1 a.x.give.w.ls.length a.c1, .int .i64 a.x.give.w.ex, .bool a.x.give.c.neg, .slice a.X2 a.x.give.c.ls.length a.c2, .int .i64 a.x.give.c.ex, .bool a.x.give.a.neg, .slice a.X3 a.x.give.a.ls.length a.c3, .int .i64 a.x.give.a.ex, .bool a.x.wa, .slice a.D a.x.ds.length a.dc, .bool a.x.eh, .int .i64 a.x.e1, .int .i64 a.x.e2, .slice a.L a.x.ls.length a.lc] (0, 0) _ k1.row Try.underlying31 rfl (by kernel_rfl) ?_)
    refine hw.mono ?_
    rintro en w3 ⟨hb, ⟨hno, rfl⟩ | ⟨hok, va, rfl, hov⟩⟩
    · replace ka := Lib.hid (ka.out.below hb ka.out.lt)
      replace gB := Lib.hid (gB.out.trans (hb.mono gB.out.size))
      have sw3 := hb.size
      clear hw hb k1 hno
      go_wp2
      go_ret
      exact ⟨rfl, gB.out⟩
    · have gB2 := gB.out
      have s3' := hb.size
      replace ka := Lib.hid (ka.out.below hb ka.out.lt)
      replace gB := Lib.hid (gB.out.trans (hb.mono gB.out.size))
      have sw3 := hb.size
      have hlen : (byP a.x).length ≤ 400 := by rw [byP_len]; exact conP_total hok
      have hfb := framed_lt (k := a.x.kd.toNat) (by omega) (by omega) (byP_lt a.x)
      have hfo := framed_ok (kind := a.x.kd.toNat) (l := byP a.x) (by omega)
      have hfn : (framed a.x.kd.toNat (byP a.x)).length ≤ 409 ∧ 9 ≤ (framed a.x.kd.toNat (byP a.x)).length := by rw [framed_len]; omega
      obtain ⟨g, cap, hvg, hg0, hg1⟩ := World.ownsRow.form hov (by omega)
      subst hvg
      have hcap : (framed a.x.kd.toNat (byP a.x)).length ≤ cap := by
        obtain ⟨_, c', e, hc, _⟩ := own_slice hov
        injection e with _ _ e3
        omega
      obtain ⟨F, hF⟩ : ∃ F, framed a.x.kd.toNat (byP a.x) = F := ⟨_, rfl⟩
      unfold Owns at hov
      rw [hF] at hfb hfo hfn hov hcap ⊢
      obtain ⟨nF, hnF⟩ : ∃ n, F.length = n := ⟨_, rfl⟩
      rw [hnF] at hfn hov hcap ⊢
      have gFe := Lib.hid hF
      have gnF := Lib.hid hnF
      have ghok := Lib.hid hok
      have ghov := Lib.hid hov
      have hgw : w.heap.size + 1 ≤ g := by omega
      clear hw hb k1 hF hnF hok hov gB2
      by_cases c1 : at_ < 0
      · have d1 : decide (at_ < 0) = true := decide_eq_true c1
        go_wp2
        go_ret
        exact ⟨rfl, gB.out⟩
      have d1 : decide (at_ < 0) = false := decide_eq_false c1
      have d3 : IntKind.i64.wrap (8 * (nF : Int)) = 8 * (nF : Int) := IntWalk.i64_in _ (by omega)
      by_cases c2 : 8 * (nF : Int) ≤ at_
      · have d2 : decide (8 * (nF : Int) ≤ at_) = true := decide_eq_true c2
        go_wp2
        go_ret
        exact ⟨rfl, gB.out⟩
      have d2 : decide (8 * (nF : Int) ≤ at_) = false := decide_eq_false c2
      obtain ⟨k, rfl⟩ : ∃ k : Nat, at_ = (k : Int) := ⟨at_.toNat, by omega⟩
      have d5 : IntKind.i64.wrap (8 * (nF : Int) - k) = 8 * (nF : Int) - k := IntWalk.i64_in _ (by omega)
      have gB1 := gB
      have ka1 := ka
      clear gB ka
      go_wp2
      go_loopw [10, 11] (fun t i wr => ∃ (j : Nat) (cur : List Nat), j ≤ 32 ∧ j ≤ 8 * nF - k ∧ i = .int .i64 j ∧ t = .bool (decide (mask % 2 ^ j ≠ 0)) ∧ Hid (wr.ownsRow w2.heap.size 5 1 (.slice (some ⟨g, 0, none⟩) nF cap) nF (bytes cur)) ∧ cur.length = nF ∧ Hid (∀ b ∈ cur, b < 256) ∧ Hid (bval cur = bval F ^^^ ((mask % 2 ^ j) * 2 ^ k)) ∧ Hid (Below w.heap.size w wr) ∧ Hid (Blk wr w.heap.size 31 #[.int .u8 a.x.kd, .int .i64 a.x.fr, .int .i64 a.x.tt, .int .i64 a.x.ep, .int .i64 a.x.nu, .int .i64 a.x.ab, .bool a.x.give.s.neg, .slice a.X0 a.x.give.s.ls.length a.c0, .int .i64 a.x.give.s.ex, .bool a.x.give.w.neg, .slice a.X1 a.x.give.w.ls.length a.c1, .int .i64 a.x.give.w.ex, .bool a.x.give.c.neg, .slice a.X2 a.x.give.c.ls.length a.c2, .int .i64 a.x.give.c.ex, .bool a.x.give.a.neg, .slice a.X3 a.x.give.a.ls.length a.c3, .int .i64 a.x.give.a.ex, .bool a.x.wa, .slice a.D a.x.ds.length a.dc, .bool a.x.eh, .int .i64 a.x.e1, .int .i64 a.x.e2, .slice a.L a.x.ls.length a.lc])) (fun _ i _ => 32 - (intOf i).toNat)
      case atStart => exact ⟨0, F, by omega, by omega, rfl, by simp [Nat.mod_one], ghov, gnF.out, Lib.hid hfb, Lib.hid (by simp [Nat.mod_one]), gB1, ka1⟩
      case round =>
        clear gB1 ka1
        obtain ⟨j, cur, hj, hj2, rfl, rfl, how, hcl, hcb, hcv, gB, ka⟩ := hrel
        obtain ⟨q, hq⟩ : ∃ q : Bool, (decide ((j : Int) < 32) && decide ((j : Int) < 8 * (nF : Int) - k)) = q := ⟨_, rfl⟩
        go_upto_region 9 with (fail)
        go_cut [52] (fun t wx => t = .bool q ∧ wr = wx)
        case first =>
          obtain ⟨q1, h1⟩ : ∃ q, decide ((j : Int) < 32) = q := ⟨_, rfl⟩
          obtain ⟨q2, h2⟩ : ∃ q, decide ((j : Int) < 8 * (nF : Int) - k) = q := ⟨_, rfl⟩
          rw [h1, h2] at hq
          subst hq
          clear how hcb hcv gB ka ghov ghok gFe gnF
          cases q1 <;> cases q2
          all_goals
            go_wp2
            go_meet
            exact ⟨rfl, rfl⟩
        case rest =>
          obtain ⟨rfl, rfl⟩ := hcut
          cases q with
          | true =>
            rw [Bool.and_eq_true, decide_eq_true_eq, decide_eq_true_eq] at hq
            have hlt : j < 32 ∧ j < 8 * nF - k := by omega
            have hmn : ((mask : Int) / 2 ^ j) = ((mask / 2 ^ j : Nat) : Int) := by simp
            clear hq
            by_cases hbit : mask / 2 ^ j % 2 = 1
            · have x3 : ((((mask : Int) / 2 ^ j).tmod 2) == 1) = true := by
                have hbq := hbit
                generalize mask / 2 ^ j = q at hmn hbq
                rw [hmn, Int.tmod_eq_emod_of_nonneg (Int.natCast_nonneg _)]
                simp
                omega
              have hq : (k + j) / 8 < cur.length := by omega
              obtain ⟨b0, hb0⟩ : ∃ b, b = cur.getD ((k + j) / 8) 0 := ⟨_, rfl⟩
              have hb0' : b0 < 256 := by rw [hb0, List.getD_eq_getElem?_getD, List.getElem?_eq_getElem hq]; exact hcb.out _ (List.getElem_mem _)
              have ck : wr.cell? ⟨g, (k + j) / 8, none⟩ = some (.int .u8 (b0 : Int)) := (how.out.cellAt ((k + j) / 8) (by omega)).trans (by rw [hb0]; exact bytes_at hq)
              have fk := how.out.frozenAt
              have x5 : (0 : Int) ≤ ((k : Int) + j) / 8 := by omega
              have x61 : (k + j) / 8 < nF := by omega
              have x6 : ((k : Int) + j) / 8 < (nF : Int) := by omega
              have hp : 2 ^ ((k + j) % 8) < 256 := Nat.pow_lt_pow_right (by omega) (Nat.mod_lt (k + j) (show 8 > 0 by omega))
              have x7 : bits .xor .u8 (b0 : Int) ((2 : Int) ^ ((k + j) % 8) % 256) = ((b0 ^^^ 2 ^ ((k + j) % 8) : Nat) : Int) := by
                have e : ((2 : Int) ^ ((k + j) % 8) % 256) = ((2 ^ ((k + j) % 8) : Nat) : Int) := by
                  have e2 : ((2 ^ ((k + j) % 8) : Nat) : Int) = (2 : Int) ^ ((k + j) % 8) := by simp
                  rw [← e2]
                  exact Int.emod_eq_of_lt (Int.natCast_nonneg _) (by exact_mod_cast hp)
                rw [e]
                exact u8_xor_nat b0 _ hb0' hp
              have hval := val_flip (r := (k + j) % 8) hq (Nat.mod_lt _ (by omega)) hcb.out
              rw [← hb0, hcv.out, Nat.div_add_mod, Nat.xor_assoc, ← mask_more mask j k hbit] at hval
              have hflt := flip_lt hb0' (Nat.mod_lt (k + j) (show 8 > 0 by omega))
              have hset := mask_set mask j hbit
              have hst := (how.out.stored ((k + j) / 8) (.int .u8 ((b0 ^^^ 2 ^ ((k + j) % 8) : Nat) : Int))).1
              rw [bytes_set] at hst
              have HV := Lib.hid hval
              have HST := Lib.hid hset
              have GCB : Hid (∀ y ∈ cur.set ((k + j) / 8) (b0 ^^^ 2 ^ ((k + j) % 8)), y < 256) := Lib.hid (fun y hy => by
                rcases List.mem_or_eq_of_mem_set hy with h | h
                · exact hcb.out y h
                · rw [h]; exact hflt)
              have GST := Lib.hid hst
              have GB9 := Lib.hid (gB.out.setCell (p := ⟨g, (k + j) / 8, none⟩) (by show w.heap.size ≤ g; omega) (.int .u8 ((b0 ^^^ 2 ^ ((k + j) % 8) : Nat) : Int)))
              have GK9 := Lib.hid (ka.out.far (p := ⟨g, (k + j) / 8, none⟩) (by show w.heap.size ≠ g; omega) (.int .u8 ((b0 ^^^ 2 ^ ((k + j) % 8) : Nat) : Int)))
              clear hmn hb0 hval hset hp hcv hst how hcb gB ka hflt ghov
              go_wp2
              go_roundw
              case rel => exact ⟨j + 1, cur.set ((k + j) / 8) (b0 ^^^ 2 ^ ((k + j) % 8)), by omega, by omega, by go_num, by rw [decide_eq_true HST.out], GST, by rw [List.length_set]; exact hcl, GCB, HV, GB9, GK9⟩
              case measure => simp [intOf]; omega
            · have x3 : ((((mask : Int) / 2 ^ j).tmod 2) == 1) = false := by
                have hbq := hbit
                generalize mask / 2 ^ j = q at hmn hbq
                rw [hmn, Int.tmod_eq_emod_of_nonneg (Int.natCast_nonneg _)]
                simp
                omega
              clear hmn
              have hsame := mask_same mask j hbit
              go_wp2
              go_roundw
              case rel => exact ⟨j + 1, cur, by omega, by omega, by go_num, by rw [hsame], how, hcl, hcb, Lib.hid (by rw [hsame]; exact hcv.out), gB, ka⟩
              case measure => simp [intOf]; omega
          | false =>
            have hfin : mask % 2 ^ j < 4294967296 ∧ (mask % 2 ^ j = 0 ∨ mask % 2 ^ j < 2 ^ 32) := ⟨Nat.lt_of_le_of_lt (Nat.mod_le _ _) hmk, .inr (Nat.lt_of_le_of_lt (Nat.mod_le _ _) hmk)⟩
            have how2 : Owns w2 wr (.slice (some ⟨g, 0, none⟩) nF cap) cur := by unfold Owns; rw [hcl]; exact how.out
            have hrd := read_v hcb.out (by omega) how2
            clear how2 hq
            by_cases hz : mask % 2 ^ j = 0
            · have hdz : decide (mask % 2 ^ j ≠ 0) = false := decide_eq_false (fun h => h hz)
              rw [hdz]
              have hcF : cur = F := val_inj (by have := gnF.out; omega) hcb.out hfb (by rw [hcv.out, hz, Nat.zero_mul, Nat.xor_zero])
              clear hdz hz hcv how hcb hfin ghov
              go_wp2_with fail
              refine hrd.mono ?_
              rintro en w4 ⟨hb, om, E, rfl, hom, hcase⟩
              unfold aggL
              rw [hcF, ← gFe.out] at hcase
              obtain ⟨rfl, hx⟩ := read_written ghok.out la hcase
              replace hx := Lib.hid hx
              clear hcF
              replace ka := Lib.hid (ka.out.below hb ka.out.lt)
              replace gB := Lib.hid (gB.out.trans (hb.mono gB.out.size))
              have sw4 := hb.size
              have gom := Lib.hid hom
              clear hrd hcase hb hom
              go_upto_region 16 with (refine wpList_store_row rfl 31 _ _ rfl w4.heap.size #[.int .u8 om.x.kd, .int .i64 om.x.fr, .int .i64 om.x.tt, .int .i64 om.x.ep, .int .i64 om.x.nu, .int .i64 om.x.ab, .bool om.x.give.s.neg, .slice om.X0 om.x.give.s.ls.length om.c0, .int .i64 om.x.give.s.ex, .bool om.x.give.w.neg, .slice om.X1 om.x.give.w.ls.length om.c1, .int .i64 om.x.give.w.ex, .bool om.x.give.c.neg, .slice om.X2 om.x.give.c.ls.length om.c2, .int .i64 om.x.give.c.ex, .bool om.x.give.a.neg, .slice om.X3 om.x.give.a.ls.length om.c3, .int .i64 om.x.give.a.ex, .bool om.x.wa, .slice om.D om.x.ds.length om.dc, .bool om.x.eh, .int .i64 om.x.e1, .int .i64 om.x.e2, .slice om.L om.x.ls.length om.lc] rfl rfl 31 #[.int .u8 0, .int .i64 0, .int .i64 0, .int .i64 0, .int .i64 0, .int .i64 0, .bool false, .slice none 0 0, .int .i64 0, .bool false, .slice none 0 0, .int .i64 0, .bool false, .slice none 0 0, .int .i64 0, .bool false, .slice none 0 0, .int .i64 0, .bool false, .slice none 0 0, .bool false, .int .i64 0, .int .i64 0, .slice none 0 0] (Blk.new w4 31 #[.int .u8 0, .int .i64 0, .int .i64 0, .int .i64 0, .int .i64 0, .int .i64 0, .bool false, .slice none 0 0, .int .i64 0, .bool false, .slice none 0 0, .int .i64 0, .bool false, .slice none 0 0, .int .i64 0, .bool false, .slice none 0 0, .int .i64 0, .bool false, .slice none 0 0, .bool false, .int .i64 0, .int .i64 0, .slice none 0 0]) info_mail rfl (by simp [Value.oneCell']) ?_)
              obtain ⟨uw4, huw4⟩ : ∃ W, W = (w4.alloc (.cells #[.int .u8 0, .int .i64 0, .int .i64 0, .int .i64 0, .int .i64 0, .int .i64 0, .bool false, .slice none 0 0, .int .i64 0, .bool false, .slice none 0 0, .int .i64 0, .bool false, .slice none 0 0, .int .i64 0, .bool false, .slice none 0 0, .int .i64 0, .bool false, .slice none 0 0, .bool false, .int .i64 0, .int .i64 0, .slice none 0 0] 31)).setRow w4.heap.size #[.int .u8 om.x.kd, .int .i64 om.x.fr, .int .i64 om.x.tt, .int .i64 om.x.ep, .int .i64 om.x.nu, .int .i64 om.x.ab, .bool om.x.give.s.neg, .slice om.X0 om.x.give.s.ls.length om.c0, .int .i64 om.x.give.s.ex, .bool om.x.give.w.neg, .slice om.X1 om.x.give.w.ls.length om.c1, .int .i64 om.x.give.w.ex, .bool om.x.give.c.neg, .slice om.X2 om.x.give.c.ls.length om.c2, .int .i64 om.x.give.c.ex, .bool om.x.give.a.neg, .slice om.X3 om.x.give.a.ls.length om.c3, .int .i64 om.x.give.a.ex, .bool om.x.wa, .slice om.D om.x.ds.length om.dc, .bool om.x.eh, .int .i64 om.x.e1, .int .i64 om.x.e2, .slice om.L om.x.ls.length om.lc] := ⟨_, rfl⟩
              have hbb : Below w4.heap.size w4 uw4 := by rw [huw4]; exact below_setRow (g := w4.heap.size) ((Below.refl _ _).alloc (Nat.le_refl _) _) (Nat.le_refl _) _
              have ky : Hid (Blk uw4 w4.heap.size 31 #[.int .u8 om.x.kd, .int .i64 om.x.fr, .int .i64 om.x.tt, .int .i64 om.x.ep, .int .i64 om.x.nu, .int .i64 om.x.ab, .bool om.x.give.s.neg, .slice om.X0 om.x.give.s.ls.length om.c0, .int .i64 om.x.give.s.ex, .bool om.x.give.w.neg, .slice om.X1 om.x.give.w.ls.length om.c1, .int .i64 om.x.give.w.ex, .bool om.x.give.c.neg, .slice om.X2 om.x.give.c.ls.length om.c2, .int .i64 om.x.give.c.ex, .bool om.x.give.a.neg, .slice om.X3 om.x.give.a.ls.length om.c3, .int .i64 om.x.give.a.ex, .bool om.x.wa, .slice om.D om.x.ds.length om.dc, .bool om.x.eh, .int .i64 om.x.e1, .int .i64 om.x.e2, .slice om.L om.x.ls.length om.lc]) := Lib.hid (by rw [huw4]; exact (Blk.new w4 31 #[.int .u8 0, .int .i64 0, .int .i64 0, .int .i64 0, .int .i64 0, .int .i64 0, .bool false, .slice none 0 0, .int .i64 0, .bool false, .slice none 0 0, .int .i64 0, .bool false, .slice none 0 0, .int .i64 0, .bool false, .slice none 0 0, .int .i64 0, .bool false, .slice none 0 0, .bool false, .int .i64 0, .int .i64 0, .slice none 0 0]).setRow _)
              rw [← huw4]
              clear huw4
              replace ka := Lib.hid (ka.out.below hbb ka.out.lt)
              replace gB := Lib.hid (gB.out.trans (hbb.mono gB.out.size))
              have suw4 := hbb.size
              replace gom := Lib.hid (gom.out.below hbb)
              clear hbb
              have hs : Calls Try.prog 11 #[.agg #[.int .u8 om.x.kd, .int .i64 om.x.fr, .int .i64 om.x.tt, .int .i64 om.x.ep, .int .i64 om.x.nu, .int .i64 om.x.ab, .bool om.x.give.s.neg, .slice om.X0 om.x.give.s.ls.length om.c0, .int .i64 om.x.give.s.ex, .bool om.x.give.w.neg, .slice om.X1 om.x.give.w.ls.length om.c1, .int .i64 om.x.give.w.ex, .bool om.x.give.c.neg, .slice om.X2 om.x.give.c.ls.length om.c2, .int .i64 om.x.give.c.ex, .bool om.x.give.a.neg, .slice om.X3 om.x.give.a.ls.length om.c3, .int .i64 om.x.give.a.ex, .bool om.x.wa, .slice om.D om.x.ds.length om.dc, .bool om.x.eh, .int .i64 om.x.e1, .int .i64 om.x.e2, .slice om.L om.x.ls.length om.lc], .agg #[.int .u8 a.x.kd, .int .i64 a.x.fr, .int .i64 a.x.tt, .int .i64 a.x.ep, .int .i64 a.x.nu, .int .i64 a.x.ab, .bool a.x.give.s.neg, .slice a.X0 a.x.give.s.ls.length a.c0, .int .i64 a.x.give.s.ex, .bool a.x.give.w.neg, .slice a.X1 a.x.give.w.ls.length a.c1, .int .i64 a.x.give.w.ex, .bool a.x.give.c.neg, .slice a.X2 a.x.give.c.ls.length a.c2, .int .i64 a.x.give.c.ex, .bool a.x.give.a.neg, .slice a.X3 a.x.give.a.ls.length a.c3, .int .i64 a.x.give.a.ex, .bool a.x.wa, .slice a.D a.x.ds.length a.dc, .bool a.x.eh, .int .i64 a.x.e1, .int .i64 a.x.e2, .slice a.L a.x.ls.length a.lc]] uw4 fun en w' => en = .returned (.bool true) ∧ Below uw4.heap.size uw4 w' := mlsame_any om a (by rw [hx.out]; exact hsa) hsa uw4 gom.out.rd (ra.below gB.out gB.out.size) true (decide_eq_true hx.out)
              have k1 := ka.out
              have rg := k1.range 0 [.int .u8 a.x.kd, .int .i64 a.x.fr, .int .i64 a.x.tt, .int .i64 a.x.ep, .int .i64 a.x.nu, .int .i64 a.x.ab, .bool a.x.give.s.neg, .slice a.X0 a.x.give.s.ls.length a.c0, .int .i64 a.x.give.s.ex, .bool a.x.give.w.neg, .slice a.X1 a.x.give.w.ls.length a.c1, .int .i64 a.x.give.w.ex, .bool a.x.give.c.neg, .slice a.X2 a.x.give.c.ls.length a.c2, .int .i64 a.x.give.c.ex, .bool a.x.give.a.neg, .slice a.X3 a.x.give.a.ls.length a.c3, .int .i64 a.x.give.a.ex, .bool a.x.wa, .slice a.D a.x.ds.length a.dc, .bool a.x.eh, .int .i64 a.x.e1, .int .i64 a.x.e2, .slice a.L a.x.ls.length a.lc] rfl
              have rg2 := ky.out.range 0 [.int .u8 om.x.kd, .int .i64 om.x.fr, .int .i64 om.x.tt, .int .i64 om.x.ep, .int .i64 om.x.nu, .int .i64 om.x.ab, .bool om.x.give.s.neg, .slice om.X0 om.x.give.s.ls.length om.c0, .int .i64 om.x.give.s.ex, .bool om.x.give.w.neg, .slice om.X1 om.x.give.w.ls.length om.c1, .int .i64 om.x.give.w.ex, .bool om.x.give.c.neg, .slice om.X2 om.x.give.c.ls.length om.c2, .int .i64 om.x.give.c.ex, .bool om.x.give.a.neg, .slice om.X3 om.x.give.a.ls.length om.c3, .int .i64 om.x.give.a.ex, .bool om.x.wa, .slice om.D om.x.ds.length om.dc, .bool om.x.eh, .int .i64 om.x.e1, .int .i64 om.x.e2, .slice om.L om.x.ls.length om.lc] rfl
              clear hx gom gFe gnF ghok
              go_wp2_with (first | (refine wpList_load_midG 31 _ rfl (by rfl) w4.heap.size 0 rfl [.int .u8 om.x.kd, .int .i64 om.x.fr, .int .i64 om.x.tt, .int .i64 om.x.ep, .int .i64 om.x.nu, .int .i64 om.x.ab, .bool om.x.give.s.neg, .slice om.X0 om.x.give.s.ls.length om.c0, .int .i64 om.x.give.s.ex, .bool om.x.give.w.neg, .slice om.X1 om.x.give.w.ls.length om.c1, .int .i64 om.x.give.w.ex, .bool om.x.give.c.neg, .slice om.X2 om.x.give.c.ls.length om.c2, .int .i64 om.x.give.c.ex, .bool om.x.give.a.neg, .slice om.X3 om.x.give.a.ls.length om.c3, .int .i64 om.x.give.a.ex, .bool om.x.wa, .slice om.D om.x.ds.length om.dc, .bool om.x.eh, .int .i64 om.x.e1, .int .i64 om.x.e2, .slice om.L om.x.ls.length om.lc] _ rg2 Try.underlying31 rfl (by kernel_rfl) ?_) | (refine wpList_load_midG 31 _ rfl (by rfl) w.heap.size 0 rfl [.int .u8 a.x.kd, .int .i64 a.x.fr, .int .i64 a.x.tt, .int .i64 a.x.ep, .int .i64 a.x.nu, .int .i64 a.x.ab, .bool a.x.give.s.neg, .slice a.X0 a.x.give.s.ls.length a.c0, .int .i64 a.x.give.s.ex, .bool a.x.give.w.neg, .slice a.X1 a.x.give.w.ls.length a.c1, .int .i64 a.x.give.w.ex, .bool a.x.give.c.neg, .slice a.X2 a.x.give.c.ls.length a.c2, .int .i64 a.x.give.c.ex, .bool a.x.give.a.neg, .slice a.X3 a.x.give.a.ls.length a.c3, .int .i64 a.x.give.a.ex, .bool a.x.wa, .slice a.D a.x.ds.length a.dc, .bool a.x.eh, .int .i64 a.x.e1, .int .i64 a.x.e2, .slice a.L a.x.ls.length a.lc] _ rg Try.underlying31 rfl (by kernel_rfl) ?_))
              refine hs.mono ?_
              rintro en w5 ⟨rfl, hb⟩
              replace ka := Lib.hid (ka.out.below hb ka.out.lt)
              replace gB := Lib.hid (gB.out.trans (hb.mono gB.out.size))
              have sw5 := hb.size
              clear hb hs rg rg2 k1 ky ka
              go_wp2
              go_ret
              exact ⟨rfl, gB.out⟩
            · have hdz : decide (mask % 2 ^ j ≠ 0) = true := decide_eq_true hz
              rw [hdz]
              have ht42 : tkE cur = 42 := by
                unfold tkE
                rw [if_neg (by omega), if_pos]
                intro hs
                exact hz (burst (l := F) (m := cur) (at_ := k) (by have := gnF.out; omega) hfb hcb.out (by have := gnF.out; omega) hfo.2.1 hs hfin.1 (by have := gnF.out; omega) hcv.out)
              replace ht42 := Lib.hid ht42
              clear hdz hz hcv how hcb hcl hfin ghov gFe gnF ghok
              go_wp2_with fail
              refine hrd.mono ?_
              rintro en w4 ⟨hb, om, E, rfl, hom, hcase⟩
              unfold aggL
              obtain rfl : E = 42 := hcase.elim (fun h => by rw [h.2.1, ht42.out]) (fun h => by have h1 := h.1; rw [ht42.out] at h1; exact absurd h1 (by decide))
              replace ka := Lib.hid (ka.out.below hb ka.out.lt)
              replace gB := Lib.hid (gB.out.trans (hb.mono gB.out.size))
              have sw4 := hb.size
              have gom := Lib.hid hom
              clear hrd hcase hb hom
              go_upto_region 16 with (refine wpList_store_row rfl 31 _ _ rfl w4.heap.size #[.int .u8 om.x.kd, .int .i64 om.x.fr, .int .i64 om.x.tt, .int .i64 om.x.ep, .int .i64 om.x.nu, .int .i64 om.x.ab, .bool om.x.give.s.neg, .slice om.X0 om.x.give.s.ls.length om.c0, .int .i64 om.x.give.s.ex, .bool om.x.give.w.neg, .slice om.X1 om.x.give.w.ls.length om.c1, .int .i64 om.x.give.w.ex, .bool om.x.give.c.neg, .slice om.X2 om.x.give.c.ls.length om.c2, .int .i64 om.x.give.c.ex, .bool om.x.give.a.neg, .slice om.X3 om.x.give.a.ls.length om.c3, .int .i64 om.x.give.a.ex, .bool om.x.wa, .slice om.D om.x.ds.length om.dc, .bool om.x.eh, .int .i64 om.x.e1, .int .i64 om.x.e2, .slice om.L om.x.ls.length om.lc] rfl rfl 31 #[.int .u8 0, .int .i64 0, .int .i64 0, .int .i64 0, .int .i64 0, .int .i64 0, .bool false, .slice none 0 0, .int .i64 0, .bool false, .slice none 0 0, .int .i64 0, .bool false, .slice none 0 0, .int .i64 0, .bool false, .slice none 0 0, .int .i64 0, .bool false, .slice none 0 0, .bool false, .int .i64 0, .int .i64 0, .slice none 0 0] (Blk.new w4 31 #[.int .u8 0, .int .i64 0, .int .i64 0, .int .i64 0, .int .i64 0, .int .i64 0, .bool false, .slice none 0 0, .int .i64 0, .bool false, .slice none 0 0, .int .i64 0, .bool false, .slice none 0 0, .int .i64 0, .bool false, .slice none 0 0, .int .i64 0, .bool false, .slice none 0 0, .bool false, .int .i64 0, .int .i64 0, .slice none 0 0]) info_mail rfl (by simp [Value.oneCell']) ?_)
              obtain ⟨uw4, huw4⟩ : ∃ W, W = (w4.alloc (.cells #[.int .u8 0, .int .i64 0, .int .i64 0, .int .i64 0, .int .i64 0, .int .i64 0, .bool false, .slice none 0 0, .int .i64 0, .bool false, .slice none 0 0, .int .i64 0, .bool false, .slice none 0 0, .int .i64 0, .bool false, .slice none 0 0, .int .i64 0, .bool false, .slice none 0 0, .bool false, .int .i64 0, .int .i64 0, .slice none 0 0] 31)).setRow w4.heap.size #[.int .u8 om.x.kd, .int .i64 om.x.fr, .int .i64 om.x.tt, .int .i64 om.x.ep, .int .i64 om.x.nu, .int .i64 om.x.ab, .bool om.x.give.s.neg, .slice om.X0 om.x.give.s.ls.length om.c0, .int .i64 om.x.give.s.ex, .bool om.x.give.w.neg, .slice om.X1 om.x.give.w.ls.length om.c1, .int .i64 om.x.give.w.ex, .bool om.x.give.c.neg, .slice om.X2 om.x.give.c.ls.length om.c2, .int .i64 om.x.give.c.ex, .bool om.x.give.a.neg, .slice om.X3 om.x.give.a.ls.length om.c3, .int .i64 om.x.give.a.ex, .bool om.x.wa, .slice om.D om.x.ds.length om.dc, .bool om.x.eh, .int .i64 om.x.e1, .int .i64 om.x.e2, .slice om.L om.x.ls.length om.lc] := ⟨_, rfl⟩
              have hbb : Below w4.heap.size w4 uw4 := by rw [huw4]; exact below_setRow (g := w4.heap.size) ((Below.refl _ _).alloc (Nat.le_refl _) _) (Nat.le_refl _) _
              have ky : Hid (Blk uw4 w4.heap.size 31 #[.int .u8 om.x.kd, .int .i64 om.x.fr, .int .i64 om.x.tt, .int .i64 om.x.ep, .int .i64 om.x.nu, .int .i64 om.x.ab, .bool om.x.give.s.neg, .slice om.X0 om.x.give.s.ls.length om.c0, .int .i64 om.x.give.s.ex, .bool om.x.give.w.neg, .slice om.X1 om.x.give.w.ls.length om.c1, .int .i64 om.x.give.w.ex, .bool om.x.give.c.neg, .slice om.X2 om.x.give.c.ls.length om.c2, .int .i64 om.x.give.c.ex, .bool om.x.give.a.neg, .slice om.X3 om.x.give.a.ls.length om.c3, .int .i64 om.x.give.a.ex, .bool om.x.wa, .slice om.D om.x.ds.length om.dc, .bool om.x.eh, .int .i64 om.x.e1, .int .i64 om.x.e2, .slice om.L om.x.ls.length om.lc]) := Lib.hid (by rw [huw4]; exact (Blk.new w4 31 #[.int .u8 0, .int .i64 0, .int .i64 0, .int .i64 0, .int .i64 0, .int .i64 0, .bool false, .slice none 0 0, .int .i64 0, .bool false, .slice none 0 0, .int .i64 0, .bool false, .slice none 0 0, .int .i64 0, .bool false, .slice none 0 0, .int .i64 0, .bool false, .slice none 0 0, .bool false, .int .i64 0, .int .i64 0, .slice none 0 0]).setRow _)
              rw [← huw4]
              clear huw4
              replace ka := Lib.hid (ka.out.below hbb ka.out.lt)
              replace gB := Lib.hid (gB.out.trans (hbb.mono gB.out.size))
              have suw4 := hbb.size
              replace gom := Lib.hid (gom.out.below hbb)
              clear hbb
              clear gom ky ka
              go_wp2
              go_ret
              exact ⟨rfl, gB.out⟩
end Go.Proofs.Ytjmhefkmpfkpbaa
