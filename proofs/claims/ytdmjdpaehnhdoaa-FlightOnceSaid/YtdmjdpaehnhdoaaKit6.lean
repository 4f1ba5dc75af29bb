/- As Kit5's law, with what else stays: every block but the row's own. -/
import Derived.Test.YtdmjdpaehnhdoaaKit5
import Derived.Test.YtdmjdpaehnhdoaaKit2
namespace Go.Proofs.Ytdmjdpaehnhdoaa
open Go.ChangeShapes Go.WideShapes Go.ChangeAt Go.RowKit
theorem wpList_push2 {P : Program} {w w0 : World} {ops : Array Oper} {rest : List Oper} {o : Oper} {a : Act} {Q : Exit → Act → World → Prop} (hgd : o.guard = none) (s x : Operand) (t : TypeId)
    (ho : o.op = .call { callee := .builtin .append, args := #[s, x], argTypes := #[t, t] })
    (base : Nat) (e : TypeId) (i : TypeInfo) (z : Value) (size bytes : Nat) (ht : P.underlying t = some (.slice e)) (hi : P.info? e = some i) (hz : i.zero = some z)
    (hsize : i.size = size) (hby : i.bytes = bytes) (hzs : z.cells.size = size) (hsz : 0 < size)
    (hB : Below base w w0) (hwb : base ≤ w.heap.size)
    (v : Value) (n : Nat) (xs : List Value) (hs : a.eval s = v) (hown : w0.ownsRow base e size v n xs)
    (us : List Value) (hul : us.length = size) (hu : ∀ u ∈ us, u.oneCell' = true) (hx : a.eval x = .slice (some ⟨w0.heap.size, 0, none⟩) 1 1)
    (h63 : n + 1 ≤ maxLen) (hbytes : (n + 1) * bytes ≤ 140737488355328)
    (h : ∀ v' w', w'.ownsRow base e size v' (n + 1) (xs ++ us) → Below base w w' → (∀ b, b < w0.heap.size → v.ownBlock ≠ some b → v'.ownBlock ≠ some b ∧ ∀ t cs, Blk w0 b t cs → Blk w' b t cs) → wpList P ops Q rest (a.put o.dst v') w') : wpList P ops Q (o :: rest) a (w0.alloc (.cells us.toArray e)) := by
  have hw0 : base ≤ w0.heap.size := Nat.le_trans hwb hB.size
  refine wpList_append_any _ hgd s x t ho base e i z size bytes ht hi hz hsize hby hzs hsz v n xs hs (hown.alloc _) (w0.heap.size + 1) _ 1 1 us hx (reads_one w0 us e size hul) hu h63 hbytes (by rw [World.size_alloc]; omega) ?_
  intro v' w' h1 h2 h3
  refine h v' w' h1 ((hB.alloc hw0 _).grown h2 (by rw [World.size_alloc]; omega) (fun k hk => own_base hown hk)) (fun b hb hne => ⟨?_, fun t cs hc => (hc.alloc _).grown h2 (Ne.symm hne)⟩)
  rcases h3 with h3 | h3
  · rw [h3]; exact hne
  · rw [h3, World.size_alloc]
    intro e
    injection e with e
    omega
theorem own_lt {w : World} {base size n : Nat} {e : TypeId} {v : Value} {xs : List Value} (h : w.ownsRow base e size v n xs) {g : Nat} (hg : v.ownBlock = some g) : g < w.heap.size := by
  rcases h.2 with ⟨rfl, rfl⟩ | ⟨b, c, cur, rfl, hb, hh, _⟩
  · simp [Value.ownBlock] at hg
  · simp [Value.ownBlock] at hg
    have h1 : Blk w b e cur := hh
    have := h1.lt
    omega
end Go.Proofs.Ytdmjdpaehnhdoaa
