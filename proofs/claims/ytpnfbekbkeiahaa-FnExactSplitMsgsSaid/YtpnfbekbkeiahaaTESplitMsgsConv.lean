/- A string's bytes, made and appended at once: the two operations '[]byte(s)' and 'append' in one step. No condition. -/
import Derived.Test.YtpnfbekbkeiahaaTESplitMsgsWMore
import Derived.Test.YtpnfbekbkeiahaaTESplitMsgsWLast
import Derived.Lib.ConvBytes
namespace Go.Proofs.YtpnfbekbkeiahaaW.PrintMore
open Go.RowKit Go.Proofs.YtpnfbekbkeiahaaW.PrintWords Go.Proofs.YtpnfbekbkeiahaaW.PrintLast
section
variable {P : Program} {ops : Array Oper} {Q : Exit → Act → World → Prop}
theorem below_bytes (W : World) (e : TypeId) (s : ByteArray) : Below W.heap.size W (Lib.bytesWorld W e s) :=
  ⟨rfl, rfl, rfl, by rw [Lib.bytesWorld_size]; exact Nat.le_succ _, fun k hk => Lib.bytesWorld_at_old W e s k hk⟩
theorem reads_bytes (W : World) (e : TypeId) (s : ByteArray) (h : s.size ≤ 9223372036854775807) : ReadsInt (Lib.bytesWorld W e s) .u8 (some ⟨W.heap.size, 0, none⟩) s.size (bytesOf s) := by
  refine ⟨bytesOf_length s, h, fun _ => ⟨_, rfl, fun j hj => ?_⟩⟩
  rw [add_plain, Lib.bytesWorld_cell W e s j hj]
  simp [bytesOf, hj]
theorem gate_conv {o : Oper} {rest : List Oper} {a : Act} {W : World} {N : Tmp} (_hd : o.dst = some N) (h : wpList P ops Q (o :: rest) a W) : wpList P ops Q (o :: rest) a W := h
/-- '[]byte(s)' and the append of it. -/
theorem print_append_conv {rest : List Oper} {o1 o2 : Oper} {a : Act} {w0 W : World} (base : Nat) (hg1 : o1.guard = none) (hg2 : o2.guard = none) (N : Tmp) (hd : o1.dst = some N) (s y : Operand) (tS t e : TypeId)
    (ho1 : o1.op = .convert tS t y) (ho2 : o2.op = .call { callee := .builtin .append, args := #[s, .tmp N], argTypes := #[t, t] })
    (hS : P.underlying tS = some .string) (ht : P.underlying t = some (.slice e)) (he : P.underlying e = some (.int .u8)) (hinfo : (P.info? e).map (fun i => (i.zero, i.size, i.bytes)) = some (some (.int .u8 0), 1, 1))
    (v : Value) (xs : List Int) (b : ByteArray) (hy : a.eval y = .string b) (hs : ∀ u, (a.put (some N) u).eval s = v) (hx : ∀ u, (a.put (some N) u).eval (.tmp N) = u)
    (HO : W.ownsRow base e 1 v xs.length (nums .u8 xs)) (HB : Below base w0 W) (hbase : base ≤ W.heap.size) (hl : xs.length + b.size ≤ 140737488355328)
    (h : ∀ u v1 w1, w1.ownsRow base e 1 v1 (xs ++ bytesOf b).length (nums .u8 (xs ++ bytesOf b)) → Below base w0 w1 → W.grownBy w1 v.ownBlock → wpList P ops Q rest ((a.put (some N) u).put o2.dst v1) w1) :
    wpList P ops Q (o1 :: o2 :: rest) a W := by
  refine Kd.event_run (w1 := Lib.bytesWorld W e b) (v := .slice (some ⟨W.heap.size, 0, none⟩) b.size (grownCap W b.size 0 e)) hg1 ?_ ?_
  · unfold execOp
    simp only [ho1, hy, Sem.run_bind, Lib.run_convert_string_bytes W tS t e b hS ht he, Result.andThen_ok, Sem.run_pure]
  · rw [hd]
    have hb := below_bytes W e b
    refine print_append_row (w0 := w0) base hg2 s (.tmp N) t e .u8 1 ho2 ht hinfo (by omega) v xs (bytesOf b) (some ⟨W.heap.size, 0, none⟩) b.size _ (hs _) (hx _) (pw_own_below HO hb) (reads_bytes W e b (by omega)) (below_then HB hbase hb) (Nat.le_trans hbase hb.size) (by omega) ?_
    intro v1 w1 ho hB hg _
    exact h _ v1 w1 ho hB (World.grownBy.trans (grown_of_below hb _) hg)
end
end Go.Proofs.YtpnfbekbkeiahaaW.PrintMore
