/- What comes in, read as the walks' own kinds: a value that reads as data of a type (a number, a bool, a string, a struct, a slice) is one of the kind 'Kd' of that type. No condition. -/
import Derived.Test.YtlikojcfjamgpaaTECountWhenWWords
import Derived.Deep.Slices
import Derived.Lib.SmallJoins
import Derived.OpenShut
import Derived.ShutString
import Derived.ProofKit
namespace Go.Proofs.Ytlikojcfjamgpaa.Open
open Go.RowKit Go.Proofs.YtlikojcfjamgpaaW.PrintWords Go.ChangeShapes Go.WideShapes Go.Deep

/-- Whatever reads as data of type t is of the kind d, and 'ok'. -/
def Rd {α : Type} (P : Program) (t : TypeId) (d : Kd α) (ok : α → Prop) : Prop :=
  ∀ (H : Type) (enc : TypeId × Value → H) (w : World) (n : Nat) (cs : List Value) (y : DataW H × List MemPlace),
    DataW.trod enc P w 0 (fun _ => true) true n t cs = some y → ∃ v, d.K w v cs ∧ ok v

theorem rd_int {P : Program} {t : TypeId} {k : IntKind} (ht : P.underlying t = some (.int k)) : Rd P t (Kd.int k) (fun x => (Lit.int k x).wf = true) := by
  intro H enc w n cs y h
  cases n with
  | zero => simp [DataW.trod] at h
  | succ n =>
    unfold DataW.trod at h
    rw [ht] at h
    split at h <;> simp_all
    obtain ⟨⟨rfl, hw⟩, _⟩ := h
    exact ⟨_, rfl, hw⟩
theorem rd_bool {P : Program} {t : TypeId} (ht : P.underlying t = some .bool) : Rd P t Kd.bool (fun _ => True) := by
  intro H enc w n cs y h
  cases n with
  | zero => simp [DataW.trod] at h
  | succ n =>
    unfold DataW.trod at h
    rw [ht] at h
    split at h <;> first | exact ⟨_, rfl, trivial⟩ | (simp_all; done)
theorem rd_string {P : Program} {t : TypeId} (ht : P.underlying t = some .string) : Rd P t Kd.string (fun s => s.size ≤ maxLen) := by
  intro H enc w n cs y h
  cases n with
  | zero => simp [DataW.trod] at h
  | succ n =>
    unfold DataW.trod at h
    rw [ht] at h
    split at h <;> simp_all
    exact ⟨_, rfl, h.1⟩

/-- The fields from an offset on. -/
def Fl {α : Type} (P : Program) (fs : List Field) (off : Nat) (d : Kd α) (ok : α → Prop) : Prop :=
  ∀ (H : Type) (enc : TypeId × Value → H) (w : World) (n : Nat) (cs : List Value), cs.length = off + d.sz →
    (∀ f ∈ fs, ∃ y, DataW.trod enc P w 0 (fun _ => true) true n f.type ((cs.drop f.offset).take (P.cellsOf f.type)) = some y) → ∃ v, d.K w v (cs.drop off) ∧ ok v
theorem fl_one {α : Type} {P : Program} {f : Field} {off : Nat} {d : Kd α} {ok : α → Prop} (h : Rd P f.type d ok) (ho : f.offset = off) (hs : P.cellsOf f.type = d.sz) : Fl P [f] off d ok := by
  intro H enc w n cs hl hf
  obtain ⟨y, hy⟩ := hf f (List.mem_singleton.2 rfl)
  rw [ho, hs, List.take_of_length_le (by rw [List.length_drop]; omega)] at hy
  exact h H enc w n _ y hy
theorem fl_cons {α β : Type} {P : Program} {f : Field} {fs : List Field} {off : Nat} {a : Kd α} {b : Kd β} {oa : α → Prop} {ob : β → Prop} (h : Rd P f.type a oa) (ho : f.offset = off) (hs : P.cellsOf f.type = a.sz)
    (hr : Fl P fs (off + a.sz) b ob) : Fl P (f :: fs) off (Kd.pair a b) (fun x => oa x.1 ∧ ob x.2) := by
  intro H enc w n cs hl hf
  have hl' : cs.length = off + (a.sz + b.sz) := hl
  obtain ⟨y, hy⟩ := hf f List.mem_cons_self
  rw [ho, hs] at hy
  obtain ⟨v, hv, hov⟩ := h H enc w n _ y hy
  obtain ⟨u, hu, hou⟩ := hr H enc w n cs (by omega) (fun g hg => hf g (List.mem_cons_of_mem _ hg))
  refine ⟨(v, u), ⟨_, _, ?_, hv, hu⟩, hov, hou⟩
  rw [← List.drop_drop, List.take_append_drop]
theorem rd_struct {α β : Type} {P : Program} {t : TypeId} {fs : Array Field} {d : Kd α} {ok : α → Prop} (ht : P.underlying t = some (.struct fs)) (hC : P.cellsOf t = d.sz) (hf : Fl P fs.toList 0 d ok) (f : β → α) (g : α → β)
    (hg : ∀ x, f (g x) = x) : Rd P t (Kd.iso d f) (fun x => ok (f x)) := by
  intro H enc w n cs y h
  obtain ⟨xs, m, _, _, hlen, hxl, hfld⟩ := DataW.trod_struct ht h
  obtain ⟨v, hv, hov⟩ := hf H enc w m cs (by omega) (fun f0 hf0 => by
    obtain ⟨i, hi, he⟩ := List.getElem_of_mem hf0
    have hi' : i < fs.size := by simpa using hi
    have e := hfld i f0 (by rw [Array.getElem?_eq_getElem hi', ← he]; simp)
    exact ⟨xs[i]'(by omega), by rw [e]; exact List.getElem?_eq_getElem _⟩)
  exact ⟨g v, by show d.K w (f (g v)) cs; rw [hg]; simpa using hv, by show ok (f (g v)); rw [hg]; exact hov⟩
theorem choose_list {α : Type} (Q : Nat → α → Prop) (n : Nat) (h : ∀ i, i < n → ∃ x, Q i x) : ∃ l : List α, l.length = n ∧ ∀ (i : Nat) (x : α), l[i]? = some x → Q i x := by
  induction n with
  | zero => exact ⟨[], rfl, fun i x e => by simp at e⟩
  | succ n ih =>
    obtain ⟨l, hl, hq⟩ := ih (fun i hi => h i (by omega))
    obtain ⟨x, hx⟩ := h n (by omega)
    refine ⟨l ++ [x], by simp [hl], fun i y e => ?_⟩
    rcases Nat.lt_or_ge i l.length with hi | hi
    · rw [List.getElem?_append_left hi] at e
      exact hq i y e
    · rw [List.getElem?_append_right hi] at e
      by_cases h0 : i - l.length = 0
      · rw [h0] at e
        simp at e
        subst e
        have : i = n := by omega
        subst this
        exact hx
      · rw [List.getElem?_eq_none (by simp; omega)] at e
        simp at e
theorem rd_slice {α : Type} {P : Program} {t e : TypeId} {d : Kd α} {ok : α → Prop} (ht : P.underlying t = some (.slice e)) (hC : P.cellsOf e = d.sz) (h : Rd P e d ok) : Rd P t (Kd.slice e d) (fun l => ∀ x ∈ l, ok x) := by
  intro H enc w n cs y hy
  rcases open_slice ht hy with ⟨rfl, _⟩ | ⟨a, len, cap, m, n', D, Pl, hcs, hb, hl, hm, hmm, hx, hi⟩
  · exact ⟨[], ⟨none, 0, rfl, by simp, rfl, by simp, fun h0 => absurd h0 (by simp)⟩, fun x hx => by simp at hx⟩
  · have hmm' : m = cap := hmm.trans (if_pos rfl)
    clear hmm
    obtain ⟨l, hll, hq⟩ := choose_list (fun i x => ok x ∧ ∃ cs', d.K w x cs' ∧ cs'.length = d.sz ∧ ∀ j u, cs'[j]? = some u → w.cell? (a.add (i * d.sz + j)) = some u) len (fun i hil => by
      obtain ⟨cs', hc, ht'⟩ := hi i (by omega)
      obtain ⟨x, hxk, hxo⟩ := h H enc w _ _ _ ht'
      obtain ⟨_, hcl, hat⟩ := World.cells?_some hc
      refine ⟨x, hxo, cs', hxk, by omega, fun j u hu => ?_⟩
      have hj : j < cs'.length := (List.getElem?_eq_some_iff.1 hu).1
      rw [← hC, ← Go.Deep.add_add, hat j (by omega), hu])
    have hm' : cap ≤ 9223372036854775807 := by simpa only [maxLen] using hm
    refine ⟨l, ⟨some a, cap, by rw [hcs, hll], by omega, rfl, by omega, fun _ => ⟨a, rfl, fun j p hp => ?_⟩⟩, fun x hx => ?_⟩
    · obtain ⟨_, cs', hk, hlen, hc⟩ := hq j p hp
      exact ⟨cs', hlen, hk, hc⟩
    · obtain ⟨i, hi', he⟩ := List.getElem_of_mem hx
      exact (hq i x (by rw [List.getElem?_eq_getElem hi', he])).1
/-- A value that came in. -/
theorem open_agg {α : Type} {P : Program} {t : TypeId} {d : Kd α} {ok : α → Prop} {r : Reach} {b0 : Nat} {H : Type} {enc : TypeId × Value → H} {w : World} {fs : Array Field} {v : Value} {x : DataW H} {p : List MemPlace} (h : Rd P t d ok)
    (hs : P.underlying t = some (.struct fs)) (hv : Value.okWide P w r b0 t v) (hT : DataW.Trod enc P w 0 (fun _ => true) true t v x p) : ∃ u cs, v = .agg cs ∧ d.K w u cs.toList ∧ ok u := by
  obtain ⟨cs, rfl, _⟩ := okWide_struct hs hv
  obtain ⟨n, hn⟩ := hT
  obtain ⟨u, hu, hok⟩ := h H enc w n _ _ hn
  exact ⟨u, cs, rfl, hu, hok⟩
theorem open_row {α : Type} {P : Program} {t e : TypeId} {d : Kd α} {ok : List α → Prop} {H : Type} {enc : TypeId × Value → H} {w : World} {r : Reach} {b0 : Nat} {v : Value} {x : DataW H} {p : List MemPlace} (h : Rd P t (Kd.slice e d) ok)
    (ht : P.underlying t = some (.slice e)) (hv : Value.okWide P w r b0 t v) (hT : DataW.Trod enc P w 0 (fun _ => true) true t v x p) : ∃ A c l, v = .slice A l.length c ∧ l.length ≤ c ∧ d.C w A l.length l ∧ ok l := by
  obtain ⟨a, len, cap, rfl⟩ := okWide_slice ht hv
  obtain ⟨n, hn⟩ := hT
  obtain ⟨l, ⟨A, c, he, hl, hc⟩, hok⟩ := h H enc w n _ _ hn
  have he' : [Value.slice a len cap] = [.slice A l.length c] := by simpa [Value.cells] using he
  injection he' with he' _
  exact ⟨A, c, l, he', hl, hc, hok⟩
end Go.Proofs.Ytlikojcfjamgpaa.Open
