/- The plain half of FnMarks: what the printed functions compute, over numbers and lists alone. No condition. -/
import Derived.Test.YtlikojcfjamgpaaTFnMarksXFnMarksx
import Derived.OpenShut
namespace Go.Proofs.Ytlikojcfjamgpaa.Pure
open Go.RowKit Go.Proofs.Ytlikojcfjamgpaa.XFnMarks Go.Proofs.YtlikojcfjamgpaaW.PrintWords Go.Proofs.YtlikojcfjamgpaaW.PrintLast Go.Proofs.YtlikojcfjamgpaaW.PrintMore
set_option linter.unusedVariables false
set_option linter.unusedSimpArgs false
theorem wf64 {x : Int} (h : (Lit.int .i64 x).wf = true) : -9223372036854775808 ≤ x ∧ x ≤ 9223372036854775807 := by
 simp [Lit.wf, IntKind.min, IntKind.max, IntKind.signed, IntKind.bits] at h
 omega
theorem w64 {x : Int} (h1 : -9223372036854775808 ≤ x) (h2 : x ≤ 9223372036854775807) : wrap64 x = x := by
 unfold wrap64
 omega
/-- A cursor's place. -/
def Cu (b : List Int) (i : Int) : Prop := 0 ≤ i ∧ i ≤ b.length ∧ b.length ≤ 1048576
theorem and255_in (y : Int) : 0 ≤ Go.bits .and .i64 y 255 ∧ Go.bits .and .i64 y 255 ≤ 255 := by
 have e : Go.bits .and .i64 y 255 = IntKind.i64.wrap ((BitVec.ofInt 64 y &&& BitVec.ofInt 64 255).toNat : Int) := rfl
 have h1 : (BitVec.ofInt 64 y &&& BitVec.ofInt 64 255).toNat ≤ 255 := by
  rw [BitVec.toNat_and]
  exact Nat.le_trans Nat.and_le_right (by decide)
 have h2 : IntKind.i64.wrap ((BitVec.ofInt 64 y &&& BitVec.ofInt 64 255).toNat : Int) = ((BitVec.ofInt 64 y &&& BitVec.ofInt 64 255).toNat : Int) := by
  rw [IntKind.wrap_i64]
  omega
 rw [e, h2]
 omega
theorem l1Byte_ok {b : List Int} {i : Int} (h : Int) (hc : Cu b i) : ∃ x i' h', spec_l1Byte.f b i h = some (x, i', h') ∧ (0 ≤ x ∧ x ≤ 255) ∧ Cu b i' := by
 obtain ⟨h0, h1, h2⟩ := hc
 unfold spec_l1Byte.f
 by_cases c : i < (b.length : Int)
 ·rw [if_pos c, if_pos h0]
  exact ⟨_, _, _, rfl, and255_in _, by rw [w64 (by omega) (by omega)]; exact ⟨by omega, by omega, h2⟩⟩
 ·rw [if_neg c]
  exact ⟨_, _, _, rfl, and255_in _, h0, h1, h2⟩
theorem l1Below_ok {b : List Int} {i : Int} (h n : Int) (hn : n ≤ 9223372036854775807) (hc : Cu b i) : ∃ x i' h', spec_l1Below.f b i h n = some (x, i', h') ∧ 0 ≤ x ∧ (0 < n → x < n) ∧ (n ≤ 0 → x = 0) ∧ x ≤ 4294967295 ∧ Cu b i' := by
 unfold spec_l1Below.f
 by_cases c : n ≤ 0
 ·rw [if_pos c]
  exact ⟨_, _, _, rfl, by omega, by omega, fun _ => rfl, by omega, hc⟩
 ·rw [if_neg c]
  by_cases c2 : n ≤ 256
  ·rw [if_pos c2]
   obtain ⟨x, i', h', e, hx, hc'⟩ := l1Byte_ok h hc
   rw [e]
   simp only [Option.bind_some, if_neg (show ¬ (n = 0) by omega)]
   rw [Int.tmod_eq_emod_of_nonneg hx.1]
   have h1 := Int.emod_nonneg x (show n ≠ 0 by omega)
   have h2 := Int.emod_lt_of_pos x (show 0 < n by omega)
   exact ⟨_, _, _, rfl, h1, fun _ => h2, by omega, by omega, hc'⟩
  ·rw [if_neg c2]
   obtain ⟨x, i1, h1, e1, hx, hc1⟩ := l1Byte_ok h hc
   obtain ⟨y, i2, h2, e2, hy, hc2⟩ := l1Byte_ok h1 hc1
   obtain ⟨z, i3, h3, e3, hz, hc3⟩ := l1Byte_ok h2 hc2
   obtain ⟨w, i4, h4, e4, hw, hc4⟩ := l1Byte_ok h3 hc3
   rw [e1]
   simp only [Option.bind_some]
   rw [e2]
   simp only [Option.bind_some]
   rw [e3]
   simp only [Option.bind_some]
   rw [e4]
   simp only [Option.bind_some, if_neg (show ¬ (n = 0) by omega)]
   have ew : wrap64 (wrap64 (wrap64 (wrap64 (x * 16777216) + wrap64 (y * 65536)) + wrap64 (z * 256)) + w) = x * 16777216 + y * 65536 + z * 256 + w := by
    rw [w64 (x := x * 16777216) (by omega) (by omega), w64 (x := y * 65536) (by omega) (by omega), w64 (x := z * 256) (by omega) (by omega), w64 (x := x * 16777216 + y * 65536) (by omega) (by omega), w64 (x := x * 16777216 + y * 65536 + z * 256) (by omega) (by omega), w64 (by omega) (by omega)]
   rw [ew, Int.tmod_eq_emod_of_nonneg (by omega)]
   have g1 := Int.emod_nonneg (x * 16777216 + y * 65536 + z * 256 + w) (show n ≠ 0 by omega)
   have g2 := Int.emod_lt_of_pos (x * 16777216 + y * 65536 + z * 256 + w) (show 0 < n by omega)
   have g3 : (x * 16777216 + y * 65536 + z * 256 + w) % n ≤ x * 16777216 + y * 65536 + z * 256 + w := by
    have q1 := Int.emod_add_mul_ediv (x * 16777216 + y * 65536 + z * 256 + w) n
    have q2 : 0 ≤ n * ((x * 16777216 + y * 65536 + z * 256 + w) / n) := Int.mul_nonneg (by omega) (Int.ediv_nonneg (by omega) (by omega))
    omega
   exact ⟨_, _, _, rfl, g1, fun _ => g2, by omega, by omega, hc4⟩
theorem l1PickInt_ok {b : List Int} {i : Int} (h : Int) (l : List Int) (hl0 : 0 < l.length) (hl1 : l.length ≤ 256) (hc : Cu b i) : ∃ x i' h', spec_l1PickInt.f b i h l = some (x, i', h') ∧ x ∈ l ∧ Cu b i' := by
 unfold spec_l1PickInt.f
 obtain ⟨x, i', h', e, hx0, hx1, _, _, hc'⟩ := l1Below_ok h (l.length : Int) (by omega) hc
 rw [e]
 have := hx1 (by omega)
 simp only [Option.bind_some, if_pos hx0, if_pos this]
 refine ⟨_, _, _, rfl, ?_, hc'⟩
 unfold rd
 rw [List.getD_eq_getElem?_getD, List.getElem?_eq_getElem (by omega)]
 exact List.getElem_mem _
theorem l1Once_ok {b : List Int} {i : Int} (h n : Int) (hn : n ≤ 9223372036854775807) (hc : Cu b i) : ∃ x i' h', spec_l1Once.f b i h n = some (x, i', h') ∧ Cu b i' := by
 unfold spec_l1Once.f
 obtain ⟨x, i', h', e, _, _, _, _, hc'⟩ := l1Below_ok h n hn hc
 rw [e]
 exact ⟨_, _, _, rfl, hc'⟩
theorem l2DrawCount_ok {b : List Int} {i : Int} (h : Int) (hc : Cu b i) : ∃ x i' h', spec_l2DrawCount.f b i h = some (x, i', h') ∧ -1 ≤ x ∧ x ≤ 9223372036854775807 ∧ Cu b i' := by
 unfold spec_l2DrawCount.f
 obtain ⟨x, i', h', e, hx0, hx1, _, _, hc'⟩ := l1Below_ok h 14 (by omega) hc
 rw [e]
 simp only [Option.bind_some]
 by_cases c0 : x = 0
 ·rw [if_pos c0]
  obtain ⟨y, i2, h2, e2, hy, hc2⟩ := l1PickInt_ok h' [(-1), 0, 1000000000000, 1000000000001, 500000000000, 666666666666, 9223372036854775807] (by simp) (by simp) hc'
  rw [e2]
  refine ⟨_, _, _, rfl, ?_, ?_, hc2⟩ <;> (simp at hy; omega)
 ·rw [if_neg c0]
  by_cases c1 : x = 1
  ·rw [if_pos c1]
   obtain ⟨y, i2, h2, e2, hy0, hy1, _, _, hc2⟩ := l1Below_ok h' 1000000000 (by omega) hc'
   rw [e2]
   have := hy1 (by omega)
   refine ⟨_, _, _, rfl, ?_, ?_, hc2⟩ <;> (rw [w64 (by omega) (by omega)]; omega)
  ·rw [if_neg c1]
   by_cases c2 : x = 2
   ·rw [if_pos c2]
    obtain ⟨y, i2, h2, e2, hy0, hy1, _, _, hc2⟩ := l1Below_ok h' 6 (by omega) hc'
    rw [e2]
    have := hy1 (by omega)
    exact ⟨_, _, _, rfl, by simp only; omega, by simp only; omega, hc2⟩
   ·rw [if_neg c2]
    obtain ⟨y, i2, h2, e2, hy0, hy1, _, _, hc2⟩ := l1Below_ok h' 5000 (by omega) hc'
    rw [e2]
    have := hy1 (by omega)
    exact ⟨_, _, _, rfl, by simp only; omega, by simp only; omega, hc2⟩
theorem l3Stride_j0 {b : List Int} {i : Int} (h x : Int) (hc : Cu b i) : ∃ p q i' h', Ev (fun k => spec_l3DrawStride.j0 k x b i h) (p, q, i', h') ∧ Cu b i' := by
 obtain ⟨y, i1, h1, e1, hy0, hy1, _, _, c1⟩ := l1Below_ok h 30 (by omega) hc
 obtain ⟨o, i2, h2, e2, c2⟩ := l1Once_ok h1 12 (by omega) c1
 by_cases co : o = true
 ·obtain ⟨p, i4, h4, e4, hp, c4⟩ := l1PickInt_ok h2 [0, (-1), 9223372036854775807, (-9223372036854775807)] (by simp) (by simp) c2
  refine ⟨x, p, i4, h4, Ev.step (fun k => by simp only [spec_l3DrawStride.j0]; rfl) ?_, c4⟩
  simp only [e1, e2, co, if_true, e4, Option.bind_some]
  exact Ev.now _
 ·refine ⟨x, wrap64 (wrap64 (x + y) - 15), i2, h2, Ev.step (fun k => by simp only [spec_l3DrawStride.j0]; rfl) ?_, c2⟩
  simp only [e1, e2, co, if_false, Option.bind_some]
  exact Ev.now _
theorem l3DrawStride_ev {b : List Int} {i : Int} (h : Int) (hc : Cu b i) : ∃ p q i' h', Ev (fun k => spec_l3DrawStride.f k b i h) (p, q, i', h') ∧ Cu b i' := by
 unfold spec_l3DrawStride.f
 obtain ⟨y, i1, h1, e1, hy0, hy1, _, _, c1⟩ := l1Below_ok h 90 (by omega) hc
 obtain ⟨o, i2, h2, e2, c2⟩ := l1Once_ok h1 15 (by omega) c1
 simp only [e1, e2, Option.bind_some]
 by_cases co : o = true
 ·simp only [co, if_true]
  obtain ⟨z, i3, h3, e3, _, _, c3⟩ := l2DrawCount_ok h2 c2
  simp only [e3, Option.bind_some]
  exact l3Stride_j0 h3 z c3
 ·simp only [co, if_false]
  exact l3Stride_j0 h2 y c2
theorem l3DrawStrides_l0 {b : List Int} (x : Int) (hx : x ≤ 1000000) (q : Nat) : ∀ (i : Int) (h : Int) (acc : List S86) (j : Nat), (x ≤ j ∨ x = j + q) → acc.length + q ≤ 1000000 → Cu b i → ∃ l i' h', Ev (fun k => spec_l3DrawStrides.l0 k x acc (j : Int) b i h) (l, i', h') ∧ l.length ≤ acc.length + q ∧ Cu b i' := by
 induction q with
 | zero =>
  intro i h acc j hj ha hc
  refine ⟨acc, i, h, Ev.step (fun k => by simp only [spec_l3DrawStrides.l0]; rfl) ?_, Nat.le_refl _, hc⟩
  simp only [show ¬ ((j : Int) < x) by omega, if_false]
  exact Ev.now _
 | succ q ih =>
  intro i h acc j hj ha hc
  by_cases cj : (j : Int) < x
  ·obtain ⟨p, q', i1, h1, e1, c1⟩ := l3DrawStride_ev h hc
   obtain ⟨l, i2, h2, e2, hl, c2⟩ := ih i1 h1 (acc ++ [⟨p, q'⟩]) (j + 1) (by omega) (by rw [List.length_append]; simp only [List.length_cons, List.length_nil]; omega) c1
   refine ⟨l, i2, h2, Ev.step (fun k => by simp only [spec_l3DrawStrides.l0]; rfl) ?_, by rw [List.length_append] at hl; simp only [List.length_cons, List.length_nil] at hl; omega, c2⟩
   simp only [cj, if_true]
   refine Ev.bind e1 ?_
   simp only [show acc.length < 8796093022208 by omega, if_true]
   rw [w64 (x := (j : Int) + 1) (by omega) (by omega)]
   exact e2
  ·refine ⟨acc, i, h, Ev.step (fun k => by simp only [spec_l3DrawStrides.l0]; rfl) ?_, by omega, hc⟩
   simp only [cj, if_false]
   exact Ev.now _
theorem l3DrawStrides_ev {b : List Int} {i : Int} (h x : Int) (hx : x ≤ 1000000) (hc : Cu b i) : ∃ l i' h', Ev (fun k => spec_l3DrawStrides.f k b i h x) (l, i', h') ∧ l.length ≤ x.toNat ∧ Cu b i' := by
 unfold spec_l3DrawStrides.f
 have := l3DrawStrides_l0 (b := b) x hx x.toNat i h [] 0 (by omega) (by simp only [List.length_nil]; omega) hc
 simpa using this
theorem l2DrawDrift_ok {b : List Int} {i : Int} (h : Int) (hc : Cu b i) : ∃ x y i' h', spec_l2DrawDrift.f b i h = some (x, y, i', h') ∧ (-1 ≤ x ∧ x ≤ 500001) ∧ (-1 ≤ y ∧ y ≤ 1000001) ∧ Cu b i' := by
 unfold spec_l2DrawDrift.f
 obtain ⟨x, i1, h1, e1, hx0, hx1, _, _, c1⟩ := l1Below_ok h 6 (by omega) hc
 obtain ⟨y, i2, h2, e2, hy0, hy1, _, _, c2⟩ := l1Below_ok h1 90 (by omega) c1
 obtain ⟨z, i3, h3, e3, hz0, hz1, _, _, c3⟩ := l1Below_ok h2 16 (by omega) c2
 have := hx1 (by omega)
 have := hy1 (by omega)
 simp only [e1, e2, e3, Option.bind_some]
 by_cases d0 : z = 0
 ·rw [if_pos d0]
  obtain ⟨p, i4, h4, e4, hp, c4⟩ := l1PickInt_ok h3 [0, 1, 500000, 500001, 100] (by simp) (by simp) c3
  obtain ⟨q, i5, h5, e5, hq, c5⟩ := l1PickInt_ok h4 [1000000, 1000001, 999999] (by simp) (by simp) c4
  simp only [e4, e5, Option.bind_some]
  simp at hp hq
  exact ⟨_, _, _, _, rfl, by omega, by omega, c5⟩
 ·rw [if_neg d0]
  by_cases d1 : z = 1
  ·rw [if_pos d1]
   obtain ⟨p, i4, h4, e4, hp, c4⟩ := l1PickInt_ok h3 [0, 1, (-1), 3] (by simp) (by simp) c3
   obtain ⟨q, i5, h5, e5, hq, c5⟩ := l1PickInt_ok h4 [0, 1, 2, 3, 6, (-1)] (by simp) (by simp) c4
   simp only [e4, e5, Option.bind_some]
   simp at hp hq
   exact ⟨_, _, _, _, rfl, by omega, by omega, c5⟩
  ·rw [if_neg d1]
   by_cases d2 : z = 2
   ·rw [if_pos d2]
    exact ⟨_, _, _, _, rfl, by omega, by omega, c3⟩
   ·rw [if_neg d2]
    exact ⟨_, _, _, _, rfl, by omega, by rw [w64 (by omega) (by omega)]; omega, c3⟩
/-- All of a list are bytes. -/
def U8s (l : List Int) : Prop := ∀ x ∈ l, (Lit.int .u8 x).wf = true
theorem u8s_rd {l : List Int} (h : U8s l) (i : Int) : 0 ≤ rd l i ∧ rd l i ≤ 255 := by
 unfold rd
 rw [List.getD_eq_getElem?_getD]
 rcases Nat.lt_or_ge i.toNat l.length with hi | hi
 ·rw [List.getElem?_eq_getElem hi]
  exact Go.bounds_u8 (h _ (List.getElem_mem hi))
 ·rw [List.getElem?_eq_none hi]
  decide
theorem rd_nat (l : List Int) (i : Nat) (hi : i < l.length) : rd l (i : Int) = l[i] := by
 unfold rd
 rw [List.getD_eq_getElem?_getD]
 simp [List.getElem?_eq_getElem hi]
theorem l1New_l0 (b : List Int) (hl : b.length ≤ 1048576) (d : Nat) : ∀ (i : Nat) (x : Int), i + d = b.length → ∃ h, Ev (fun k => spec_l1New.l0 k b x (i : Int)) (b, 0, h) := by
 induction d with
 | zero =>
  intro i x hi
  refine ⟨x, Ev.step (fun k => by simp only [spec_l1New.l0]; rfl) ?_⟩
  simp only [show ¬ ((i : Int) < (b.length : Int)) by omega, if_false]
  refine Ev.step (fun k => by simp only [spec_l1New.j1]; rfl) ?_
  simp only [Bool.false_eq_true, if_false]
  exact Ev.now _
 | succ d ih =>
  intro i x hi
  by_cases c : (i : Int) < 4000
  ·obtain ⟨h, hh⟩ := ih (i + 1) (Go.bits .and .i64 (wrap64 ((wrap64 ((wrap64 (x * 131)) + (wrap64 (rd b (i : Int))))) + 7)) 1073741823) (by omega)
   refine ⟨h, Ev.step (fun k => by simp only [spec_l1New.l0]; rfl) ?_⟩
   simp only [show (i : Int) < (b.length : Int) by omega, c, decide_true, if_true]
   refine Ev.step (fun k => by simp only [spec_l1New.j1]; rfl) ?_
   simp only [show (i : Int) < (b.length : Int) by omega, show (0 : Int) ≤ (i : Int) by omega, if_true]
   rw [w64 (x := (i : Int) + 1) (by omega) (by omega)]
   exact hh
  ·refine ⟨x, Ev.step (fun k => by simp only [spec_l1New.l0]; rfl) ?_⟩
   simp only [show (i : Int) < (b.length : Int) by omega, c, decide_false, if_true]
   refine Ev.step (fun k => by simp only [spec_l1New.j1]; rfl) ?_
   simp only [Bool.false_eq_true, if_false]
   exact Ev.now _
theorem l1New_ev (b : List Int) (hl : b.length ≤ 1048576) : ∃ h, Ev (fun k => spec_l1New.f k b) (b, 0, h) := by
 unfold spec_l1New.f
 exact l1New_l0 b hl b.length 0 _ (by omega)
theorem cu0 {b : List Int} (hl : b.length ≤ 1048576) : Cu b 0 := ⟨by omega, by omega, hl⟩
theorem l1Size_ok (l : List Int) (hl : l.length ≤ 1048576) (n : Int) : ∃ x, spec_l1Size.f l n = some x ∧ x ≤ n ∧ x ≤ 52431 ∧ (-1 ≤ n → -1 ≤ x) := by
 unfold spec_l1Size.f
 have h1 : (0 : Int) ≤ (l.length : Int) / 20 := by omega
 rw [w64 (x := (l.length : Int) / 20) (by omega) (by omega), w64 (by omega) (by omega)]
 by_cases c : 2 + (l.length : Int) / 20 > n
 ·rw [if_pos c]
  exact ⟨_, rfl, by omega, by omega, by omega⟩
 ·rw [if_neg c]
  exact ⟨_, rfl, by omega, by omega, by omega⟩
/-- What may be counted: the bounds. -/
def dOk (n d : Int) : Bool := decide (1 ≤ d ∧ d ≤ 1000000 ∧ 0 ≤ n ∧ 2 * n ≤ d)
def tOk (t : Int) : Bool := decide (0 ≤ t ∧ t ≤ 1000000000000)
def leastT (n d c : Int) : Int := -((-(c * d)) / (d + n))
def mostT (n d c : Int) : Int := c * d / (d - n)
def leastC (n d t : Int) : Int := -((-(t * (d - n))) / d)
def mostC (n d t : Int) : Int := t * (d + n) / d
def tld (b : Bool) (v : Int) : Int × Bool := if b = true ∧ v ≤ 1000000000000 then (v, true) else (0, false)
theorem dOk_iff {n d : Int} : dOk n d = true ↔ 1 ≤ d ∧ d ≤ 1000000 ∧ 0 ≤ n ∧ 2 * n ≤ d := by unfold dOk; exact decide_eq_true_iff
theorem tOk_iff {t : Int} : tOk t = true ↔ 0 ≤ t ∧ t ≤ 1000000000000 := by unfold tOk; exact decide_eq_true_iff
abbrev MK := S38
theorem rdM_nat (l : List MK) (i : Nat) (hi : i < l.length) : rd_T38 l (i : Int) = l[i] := by
 unfold rd_T38
 rw [List.getD_eq_getElem?_getD]
 simp [List.getElem?_eq_getElem hi]
theorem rdM_take (l : List MK) (i j : Nat) (hj : j < i) : rd_T38 (l.take i) (j : Int) = rd_T38 l (j : Int) := by
 unfold rd_T38
 rw [List.getD_eq_getElem?_getD, List.getD_eq_getElem?_getD, Int.toNat_natCast, List.getElem?_take_of_lt hj]
/-- All of d naturals from j on. -/
def allF (f : Nat → Bool) : Nat → Nat → Bool
 | 0, _ => true
 | d + 1, j => f j && allF f d (j + 1)
theorem allF_iff (f : Nat → Bool) : ∀ d j, allF f d j = true ↔ ∀ i, j ≤ i → i < j + d → f i = true := by
 intro d
 induction d with
 | zero => intro j; simp only [allF, true_iff]; intro i h1 h2; omega
 | succ d ih =>
  intro j
  rw [allF, Bool.and_eq_true, ih]
  constructor
  ·rintro ⟨h1, h2⟩ i h3 h4
   by_cases c : i = j
   ·rw [c]; exact h1
   ·exact h2 i (by omega) (by omega)
  ·intro h
   exact ⟨h j (Nat.le_refl j) (by omega), fun i h1 h2 => h i (by omega) (by omega)⟩
theorem allF_all (f : Nat → Bool) (d j : Nat) (h : ∀ i, f i = true) : allF f d j = true := (allF_iff f d j).2 fun i _ _ => h i
/-- A count of a time. -/
def mayC (n d c t : Int) : Bool := dOk n d && (tOk c && (tOk t && (decide (c * (d - n) ≤ t * d) && decide (t * d ≤ c * (d + n)))))
theorem may_ws {n d c t : Int} (h1 : dOk n d = true) (h2 : tOk c = true) (h3 : tOk t = true) : wrap64 (d - n) = d - n ∧ wrap64 (d + n) = d + n ∧ wrap64 (c * (d - n)) = c * (d - n) ∧ wrap64 (c * (d + n)) = c * (d + n) ∧ wrap64 (t * d) = t * d := by
 have g1 := dOk_iff.1 h1
 have g2 := tOk_iff.1 h2
 have g3 := tOk_iff.1 h3
 have a1 := Int.mul_nonneg g2.1 (show 0 ≤ d - n by omega)
 have a2 := Int.mul_nonneg g2.1 (show 0 ≤ d + n by omega)
 have a3 := Int.mul_nonneg g3.1 (show 0 ≤ d by omega)
 have b1 := Int.mul_le_mul g2.2 (show d - n ≤ 1000000 by omega) (show 0 ≤ d - n by omega) (by omega)
 have b2 := Int.mul_le_mul g2.2 (show d + n ≤ 1500000 by omega) (show 0 ≤ d + n by omega) (by omega)
 have b3 := Int.mul_le_mul g3.2 g1.2.1 (show 0 ≤ d by omega) (by omega)
 exact ⟨w64 (by omega) (by omega), w64 (by omega) (by omega), w64 (by omega) (by omega), w64 (by omega) (by omega), w64 (by omega) (by omega)⟩
def tk (x : MK) : Bool := tOk x.f0 && tOk x.f1
def may2 (n d : Int) (a b : MK) : Bool := mayC n d (wrap64 (b.f0 - a.f0)) (wrap64 (b.f1 - a.f1))
def lenOk (l : List MK) : Bool := decide ((1 : Int) ≤ (l.length : Int) ∧ (l.length : Int) ≤ 201)
/-- What MarksOk and MarksAll tell, by what pairs they look at. -/
def mks (P : Nat → Nat → Bool) (n d : Int) (l : List MK) : Bool := dOk n d && (lenOk l && allF (fun i => tk (rd_T38 l (i : Int)) && allF (fun j => !P j i || may2 n d (rd_T38 l (j : Int)) (rd_T38 l (i : Int))) i 0) l.length 0)
theorem mks_iff (P : Nat → Nat → Bool) (n d : Int) (l : List MK) : mks P n d l = true ↔ dOk n d = true ∧ (1 ≤ l.length ∧ l.length ≤ 201) ∧ (∀ i, i < l.length → tk (rd_T38 l (i : Int)) = true) ∧ ∀ i j, i < l.length → j < i → P j i = true → may2 n d (rd_T38 l (j : Int)) (rd_T38 l (i : Int)) = true := by
 unfold mks lenOk
 rw [Bool.and_eq_true, Bool.and_eq_true, allF_iff, decide_eq_true_iff]
 constructor
 ·rintro ⟨h1, h2, h3⟩
  refine ⟨h1, by omega, fun i hi => ?_, fun i j hi hj hp => ?_⟩
  ·have := h3 i (by omega) (by omega)
   rw [Bool.and_eq_true] at this
   exact this.1
  ·have := h3 i (by omega) (by omega)
   rw [Bool.and_eq_true, allF_iff] at this
   have := this.2 j (by omega) (by omega)
   rw [hp] at this
   simpa using this
 ·rintro ⟨h1, h2, h3, h4⟩
  refine ⟨h1, by omega, fun i hi hj => ?_⟩
  rw [Bool.and_eq_true, allF_iff]
  refine ⟨h3 i (by omega), fun j _ h5 => ?_⟩
  by_cases c : P j i = true
  ·rw [h4 i j (by omega) (by omega) c]
   simp
  ·simp [c]
theorem may2_iff {n d : Int} {a b : MK} (hd : dOk n d = true) (ha : tk a = true) (hb : tk b = true) : may2 n d a b = true ↔ a.f0 ≤ b.f0 ∧ a.f1 ≤ b.f1 ∧ (b.f0 - a.f0) * (d - n) ≤ (b.f1 - a.f1) * d ∧ (b.f1 - a.f1) * d ≤ (b.f0 - a.f0) * (d + n) := by
 unfold tk at ha hb
 rw [Bool.and_eq_true, tOk_iff, tOk_iff] at ha hb
 unfold may2 mayC
 rw [w64 (x := b.f0 - a.f0) (by omega) (by omega), w64 (x := b.f1 - a.f1) (by omega) (by omega), Bool.and_eq_true, Bool.and_eq_true, Bool.and_eq_true, Bool.and_eq_true, tOk_iff, tOk_iff, decide_eq_true_iff, decide_eq_true_iff]
 constructor
 ·rintro ⟨_, h1, h2, h3, h4⟩
  exact ⟨by omega, by omega, h3, h4⟩
 ·rintro ⟨h1, h2, h3, h4⟩
  exact ⟨hd, by omega, by omega, h3, h4⟩
theorem mks_adj (n d : Int) (l : List MK) : mks (fun j i => decide (j + 1 = i)) n d l = mks (fun _ _ => true) n d l := by
 rw [Bool.eq_iff_iff, mks_iff, mks_iff]
 constructor
 ·rintro ⟨h1, h2, h3, h4⟩
  refine ⟨h1, h2, h3, ?_⟩
  have key : ∀ q j, j + q + 1 < l.length → may2 n d (rd_T38 l (j : Int)) (rd_T38 l ((j + q + 1 : Nat) : Int)) = true := by
   intro q
   induction q with
   | zero => intro j hj; exact h4 (j + 0 + 1) j hj (by omega) (by simp)
   | succ q ih =>
    intro j hj
    have a1 := (may2_iff h1 (h3 j (by omega)) (h3 (j + q + 1) (by omega))).1 (ih j (by omega))
    have a2 := (may2_iff h1 (h3 (j + q + 1) (by omega)) (h3 (j + q + 1 + 1) (by omega))).1 (h4 (j + q + 1 + 1) (j + q + 1) (by omega) (by omega) (by simp))
    refine (may2_iff h1 (h3 j (by omega)) (h3 (j + (q + 1) + 1) (by omega))).2 ?_
    rw [show j + (q + 1) + 1 = j + q + 1 + 1 by omega]
    generalize rd_T38 l ((j + q + 1 + 1 : Nat) : Int) = c at a2 ⊢
    generalize rd_T38 l ((j + q + 1 : Nat) : Int) = b at a1 a2
    generalize rd_T38 l (j : Int) = a at a1 ⊢
    have e0 : c.f0 - a.f0 = (b.f0 - a.f0) + (c.f0 - b.f0) := by omega
    have e1 : c.f1 - a.f1 = (b.f1 - a.f1) + (c.f1 - b.f1) := by omega
    rw [e0, e1, Int.add_mul, Int.add_mul, Int.add_mul]
    omega
  intro i j hi hj _
  have := key (i - j - 1) j (by omega)
  rw [show j + (i - j - 1) + 1 = i by omega] at this
  exact this
 ·rintro ⟨h1, h2, h3, h4⟩
  exact ⟨h1, h2, h3, fun i j hi hj _ => h4 i j hi hj rfl⟩
theorem big_eq (l : List Int) : laws_big.f l = some (decide ((l.length : Int) > 1048576)) := rfl
theorem wrap64_le (x : Int) : wrap64 x ≤ 9223372036854775807 := by unfold wrap64; omega
def oOk (n d t c : Int) : Bool := dOk n d && (tOk t && tOk c)
/-- The counts of a time. -/
def cts (n d t : Int) : Int × Int × Bool := if (tld (dOk n d && tOk t) (leastC n d t)).2 = true then (if (tld (dOk n d && tOk t) (mostC n d t)).2 = true then ((tld (dOk n d && tOk t) (leastC n d t)).1, (tld (dOk n d && tOk t) (mostC n d t)).1, true) else (0, 0, false)) else (0, 0, false)
theorem fl_unique {a b q : Int} (hb : 0 < b) (h1 : q * b ≤ a) (h2 : a < (q + 1) * b) : a / b = q := by
 have e1 := (Int.le_ediv_iff_mul_le hb).2 h1
 have e2 := (Int.ediv_lt_iff_lt_mul hb).2 h2
 omega
theorem mul_bd {c d A B : Int} (h0 : 0 ≤ c) (h1 : c ≤ A) (h2 : 0 ≤ d) (h3 : d ≤ B) : 0 ≤ c * d ∧ c * d ≤ A * B := ⟨Int.mul_nonneg h0 h2, Int.mul_le_mul h1 h3 h2 (by omega)⟩
theorem ediv_bd {a b : Int} (h : 0 ≤ a) (hb : 0 < b) : 0 ≤ a / b ∧ a / b ≤ a := ⟨Int.ediv_nonneg h (by omega), Int.ediv_le_self b h⟩
theorem leastT_bd {n d c : Int} (h1 : dOk n d = true) (h2 : tOk c = true) : 0 ≤ leastT n d c ∧ leastT n d c ≤ c := by
 have g1 := dOk_iff.1 h1
 have g2 := tOk_iff.1 h2
 unfold leastT
 have hp := Int.mul_nonneg g2.1 (show 0 ≤ d by omega)
 have hq := Int.mul_nonneg g2.1 g1.2.2.1
 have e0 : -c ≤ -(c * d) / (d + n) := (Int.le_ediv_iff_mul_le (by omega)).2 (by rw [Int.neg_mul, Int.mul_add]; omega)
 have e1 : -(c * d) / (d + n) < 1 := (Int.ediv_lt_iff_lt_mul (by omega)).2 (by omega)
 omega
theorem mostT_bd {n d c : Int} (h1 : dOk n d = true) (h2 : tOk c = true) : c ≤ mostT n d c ∧ mostT n d c ≤ 2 * c := by
 have g1 := dOk_iff.1 h1
 have g2 := tOk_iff.1 h2
 unfold mostT
 have hq := Int.mul_nonneg g2.1 g1.2.2.1
 have hr := Int.mul_nonneg g2.1 (show 0 ≤ d - 2 * n by omega)
 have e0 : c ≤ c * d / (d - n) := (Int.le_ediv_iff_mul_le (by omega)).2 (by rw [Int.mul_sub]; omega)
 have e1 : c * d / (d - n) < 2 * c + 1 := (Int.ediv_lt_iff_lt_mul (by omega)).2 (by
  have e : (2 * c + 1) * (d - n) = c * (d - 2 * n) + c * d + (d - n) := by
   have e5 : c * (2 * n) = 2 * (c * n) := Int.mul_left_comm c 2 n
   rw [Int.add_mul, Int.one_mul, Int.mul_assoc, Int.mul_sub c d n, Int.mul_sub c d (2 * n), e5]
   omega
  rw [e]
  omega)
 omega
theorem leastC_bd {n d t : Int} (h1 : dOk n d = true) (h2 : tOk t = true) : 0 ≤ leastC n d t ∧ leastC n d t ≤ t := by
 have g1 := dOk_iff.1 h1
 have g2 := tOk_iff.1 h2
 unfold leastC
 have hp := Int.mul_nonneg g2.1 (show 0 ≤ d - n by omega)
 have hq := Int.mul_nonneg g2.1 g1.2.2.1
 have e0 : -t ≤ -(t * (d - n)) / d := (Int.le_ediv_iff_mul_le (by omega)).2 (by rw [Int.neg_mul, Int.mul_sub]; omega)
 have e1 : -(t * (d - n)) / d < 1 := (Int.ediv_lt_iff_lt_mul (by omega)).2 (by omega)
 omega
theorem mostC_bd {n d t : Int} (h1 : dOk n d = true) (h2 : tOk t = true) : t ≤ mostC n d t ∧ mostC n d t ≤ 2 * t := by
 have g1 := dOk_iff.1 h1
 have g2 := tOk_iff.1 h2
 unfold mostC
 have hq := Int.mul_nonneg g2.1 g1.2.2.1
 have hr := Int.mul_nonneg g2.1 (show 0 ≤ d - n by omega)
 have e0 : t ≤ t * (d + n) / d := (Int.le_ediv_iff_mul_le (by omega)).2 (by rw [Int.mul_add]; omega)
 have e1 : t * (d + n) / d < 2 * t + 1 := (Int.ediv_lt_iff_lt_mul (by omega)).2 (by
  have e : (2 * t + 1) * d = t * (d + n) + t * (d - n) + d := by
   rw [Int.add_mul, Int.one_mul, Int.mul_assoc, Int.mul_add, Int.mul_sub]
   omega
  rw [e]
  omega)
 omega
theorem tld_true (v : Int) : tld true v = if v ≤ 1000000000000 then (v, true) else (0, false) := by
 unfold tld
 simp
theorem tld_false (v : Int) : tld false v = (0, false) := by
 unfold tld
 simp
theorem cts_in {n d t : Int} (h : (cts n d t).2.2 = true) : dOk n d = true ∧ tOk t = true ∧ (cts n d t).1 = leastC n d t ∧ (cts n d t).2.1 = mostC n d t ∧ mostC n d t ≤ 1000000000000 := by
 unfold cts at h ⊢
 by_cases c : (dOk n d && tOk t) = true
 ·rw [c] at h ⊢
  rw [Bool.and_eq_true] at c
  rw [tld_true, tld_true] at h ⊢
  by_cases c1 : leastC n d t ≤ 1000000000000
  ·rw [if_pos c1] at h ⊢
   by_cases c2 : mostC n d t ≤ 1000000000000
   ·rw [if_pos c2] at h ⊢
    exact ⟨c.1, c.2, by simp, by simp, c2⟩
   ·rw [if_neg c2] at h
    simp at h
  ·rw [if_neg c1] at h
   simp at h
 ·rw [Bool.not_eq_true] at c
  rw [c] at h
  simp [tld_false] at h
/-- What Clamp tells. -/
def clamp (n d t w : Int) : Int × Bool := if (cts n d t).2.2 = true then (mx (cts n d t).1 (mn (cts n d t).2.1 w), true) else (0, false)
/-- What OscStep tells. -/
def oStep (n d t c b w : Int) : Int × Int × Int × Int × Bool :=
 if oOk n d t c = true then (if (clamp n d b w).2 = true ∧ t + b ≤ 1000000000000 ∧ c + (clamp n d b w).1 ≤ 1000000000000 then (n, d, t + b, c + (clamp n d b w).1, true) else (n, d, t, c, false)) else (0, 0, 0, 0, false)
theorem clamp_bd {n d b w : Int} (h : (clamp n d b w).2 = true) : dOk n d = true ∧ tOk b = true ∧ leastC n d b ≤ (clamp n d b w).1 ∧ (clamp n d b w).1 ≤ mostC n d b ∧ mostC n d b ≤ 1000000000000 ∧ 0 ≤ (clamp n d b w).1 := by
 unfold clamp at h ⊢
 by_cases c : (cts n d b).2.2 = true
 ·rw [if_pos c]
  obtain ⟨h1, h2, e1, e2, h3⟩ := cts_in c
  have b1 := leastC_bd h1 h2
  have b2 := mostC_bd h1 h2
  rw [e1, e2]
  refine ⟨h1, h2, ?_, ?_, h3, ?_⟩ <;> (simp only; unfold mx mn; omega)
 ·rw [if_neg c] at h
  simp at h
theorem oOk_iff {n d t c : Int} : oOk n d t c = true ↔ dOk n d = true ∧ (0 ≤ t ∧ t ≤ 1000000000000) ∧ (0 ≤ c ∧ c ≤ 1000000000000) := by
 unfold oOk
 rw [Bool.and_eq_true, Bool.and_eq_true, tOk_iff, tOk_iff]
abbrev SR := S86
theorem rdSR_nat (l : List SR) (i : Nat) (hi : i < l.length) : rd_T86 l (i : Int) = l[i] := by
 unfold rd_T86
 rw [List.getD_eq_getElem?_getD]
 simp [List.getElem?_eq_getElem hi]
/-- What a run of an oscillator tells. -/
def oRun (n d t c : Int) (acc : List MK) (i : Nat) : List SR → List MK × Int
 | [] => (acc, (i : Int))
 | s :: r => if (oStep n d t c s.f0 s.f1).2.2.2.2 = true then oRun (oStep n d t c s.f0 s.f1).1 (oStep n d t c s.f0 s.f1).2.1 (oStep n d t c s.f0 s.f1).2.2.1 (oStep n d t c s.f0 s.f1).2.2.2.1 (acc ++ [⟨(oStep n d t c s.f0 s.f1).2.2.1, (oStep n d t c s.f0 s.f1).2.2.2.1⟩]) (i + 1) r else (acc, (i : Int))
theorem oRun_len (r : List SR) : ∀ n d t c acc i, (oRun n d t c acc i r).1.length ≤ acc.length + r.length := by
 induction r with
 | nil => intro n d t c acc i; rw [oRun]; simp
 | cons s r ih =>
  intro n d t c acc i
  rw [oRun]
  split
  ·have := ih (oStep n d t c s.f0 s.f1).1 (oStep n d t c s.f0 s.f1).2.1 (oStep n d t c s.f0 s.f1).2.2.1 (oStep n d t c s.f0 s.f1).2.2.2.1 (acc ++ [⟨(oStep n d t c s.f0 s.f1).2.2.1, (oStep n d t c s.f0 s.f1).2.2.2.1⟩]) (i + 1)
   rw [List.length_append] at this
   simp only [List.length_cons, List.length_nil] at this ⊢
   omega
  ·simp
def oscRun (n d t c : Int) (l : List SR) : List MK × Int := if oOk n d t c = true ∧ l.length ≤ 200 then oRun n d t c [⟨t, c⟩] 0 l else ([], 0)
theorem oscRun_len (n d t c : Int) (l : List SR) : (oscRun n d t c l).1.length ≤ 201 := by
 unfold oscRun
 split
 ·next h =>
  have := oRun_len l n d t c [⟨t, c⟩] 0
  simp only [List.length_cons, List.length_nil] at this
  omega
 ·simp
theorem in_eq (a b c : Int) : impl_in.f a b c = some (decide (b ≤ a ∧ a ≤ c)) := by
 unfold impl_in.f
 by_cases h : b ≤ a <;> simp [h]
theorem iDriftOk_eq (n d : Int) : impl_DriftOk.f n d = some (decide (1 ≤ d ∧ d ≤ 1000000 ∧ 0 ≤ n ∧ 2 * n ≤ d)) := by
 unfold impl_DriftOk.f
 simp only [in_eq, Option.bind_some, decide_eq_true_eq]
 by_cases h : 1 ≤ d ∧ d ≤ 1000000
 ·rw [if_pos h]
  by_cases h2 : 0 ≤ n ∧ n ≤ d
  ·rw [if_pos h2, w64 (by omega) (by omega)]
   simp only [Option.some.injEq, decide_eq_decide]
   omega
  ·rw [if_neg h2]
   simp only [Option.some.injEq]
   exact (decide_eq_false (by omega)).symm
 ·rw [if_neg h]
  simp only [Option.some.injEq]
  exact (decide_eq_false (by omega)).symm
theorem isTime_eq (a : Int) : impl_isTime.f a = some (decide (0 ≤ a ∧ a ≤ 1000000000000)) := by
 unfold impl_isTime.f
 rw [in_eq]
 rfl
theorem iOscOk_eq (n d t c : Int) : impl_OscOk.f n d t c = some (oOk n d t c) := by
 unfold impl_OscOk.f oOk
 simp only [iDriftOk_eq, isTime_eq, Option.bind_some]
 change (if dOk n d = true then (if tOk t = true then some (tOk c) else some false) else some false) = _
 cases dOk n d <;> cases tOk t <;> simp
theorem downv (a b : Int) (hb : 0 < b) (h0 : -4000000000000000000 ≤ a) (h1 : a ≤ 4000000000000000000) : spec_l1Down.f a b = some (a / b) := by
 unfold spec_l1Down.f
 rw [if_neg (by omega)]
 rcases Int.le_total 0 a with h | h
 ·have hm : 0 ≤ Int.tmod a b := by
   rw [Int.tmod_eq_emod_of_nonneg h]
   exact Int.emod_nonneg _ (by omega)
  obtain ⟨q0, q1⟩ := ediv_bd h hb
  rw [if_neg (by omega), Int.tdiv_eq_ediv_of_nonneg h, w64 (by omega) (by omega)]
 ·obtain ⟨m, rfl⟩ : ∃ m, a = -m := ⟨-a, by omega⟩
  have hm : 0 ≤ m := by omega
  have e1 := Int.emod_nonneg m (show b ≠ 0 by omega)
  have e2 := Int.emod_lt_of_pos m hb
  have e3 := Int.emod_add_mul_ediv m b
  obtain ⟨q0, q1⟩ := ediv_bd hm hb
  rw [Int.neg_tmod, Int.neg_tdiv, Int.tmod_eq_emod_of_nonneg hm, Int.tdiv_eq_ediv_of_nonneg hm]
  generalize m / b = q at *
  generalize m % b = r at *
  have e4 : q * b = b * q := Int.mul_comm _ _
  by_cases c : -r < 0
  ·rw [if_pos c, w64 (x := -q) (by omega) (by omega), w64 (by omega) (by omega)]
   congr 1
   symm
   apply fl_unique hb
   ·rw [Int.sub_mul, Int.neg_mul, Int.one_mul]
    omega
   ·rw [show -q - 1 + 1 = -q by omega, Int.neg_mul]
    omega
  ·rw [if_neg c, w64 (by omega) (by omega)]
   congr 1
   symm
   apply fl_unique hb
   ·rw [Int.neg_mul]
    omega
   ·rw [Int.add_mul, Int.neg_mul, Int.one_mul]
    omega
theorem upv (a b : Int) (hb : 0 < b) (h0 : 0 ≤ a) (h1 : a ≤ 4000000000000000000) : spec_l1Up.f a b = some (-((-a) / b)) := by
 unfold spec_l1Up.f
 rw [w64 (x := -a) (by omega) (by omega), downv _ _ hb (by omega) (by omega)]
 have e0 : -a ≤ -a / b := (Int.le_ediv_iff_mul_le hb).2 (by
  have : -a * b ≤ -a * 1 := Int.mul_le_mul_of_nonpos_left (by omega) (by omega)
  omega)
 have e1 : -a / b < 1 := (Int.ediv_lt_iff_lt_mul hb).2 (by omega)
 simp only [Option.bind_some]
 rw [w64 (by omega) (by omega)]
theorem idown_eq (a b : Int) : impl_down.f a b = spec_l1Down.f a b := rfl
theorem iup_eq (a b : Int) : impl_up.f a b = spec_l1Up.f a b := by
 unfold impl_up.f spec_l1Up.f
 simp only [idown_eq]
theorem iLeastCount_eq (n d c : Int) : impl_LeastCount.f n d c = some (tld (dOk n d && tOk c) (leastC n d c)) := by
 unfold impl_LeastCount.f impl_LeastCount_1.f
 simp only [iDriftOk_eq, isTime_eq, Option.bind_some, iup_eq]
 change (if dOk n d = true then (if tOk c = true then _ else _) else _) = _
 by_cases c1 : dOk n d = true
 ·rw [if_pos c1]
  by_cases c2 : tOk c = true
  ·rw [if_pos c2]
   have h1 := dOk_iff.1 c1
   have h2 := tOk_iff.1 c2
   have h3 := mul_bd h2.1 h2.2 (show 0 ≤ d - n by omega) (show d - n ≤ 1000000 by omega)
   rw [w64 (x := d - n) (by omega) (by omega), w64 (x := c * (d - n)) (by omega) (by omega), upv _ _ (by omega) h3.1 (by omega), c1, c2]
   simp only [Option.bind_some, Bool.and_self, tld, leastC, true_and]
   split <;> rfl
  ·rw [if_neg c2]
   simp [tld, c2]
 ·rw [if_neg c1]
  simp [tld, c1]
theorem iMostCount_eq (n d c : Int) : impl_MostCount.f n d c = some (tld (dOk n d && tOk c) (mostC n d c)) := by
 unfold impl_MostCount.f impl_MostCount_1.f
 simp only [iDriftOk_eq, isTime_eq, Option.bind_some]
 change (if dOk n d = true then (if tOk c = true then _ else _) else _) = _
 by_cases c1 : dOk n d = true
 ·rw [if_pos c1]
  by_cases c2 : tOk c = true
  ·rw [if_pos c2]
   have h1 := dOk_iff.1 c1
   have h2 := tOk_iff.1 c2
   have h3 := mul_bd h2.1 h2.2 (show 0 ≤ d + n by omega) (show d + n ≤ 2000000 by omega)
   have h4 := ediv_bd h3.1 (show 0 < d by omega)
   rw [w64 (x := d + n) (by omega) (by omega), w64 (x := c * (d + n)) (by omega) (by omega), if_neg (by omega), Int.tdiv_eq_ediv_of_nonneg h3.1, w64 (by omega) (by omega), c1, c2]
   simp only [Option.bind_some, Bool.and_self, tld, mostC, true_and]
   split <;> rfl
  ·rw [if_neg c2]
   simp [tld, c2]
 ·rw [if_neg c1]
  simp [tld, c1]
theorem icounts_eq (k : Nat) (n d t : Int) : impl_counts.f (k + 1) n d t = some (cts n d t) := by
 unfold impl_counts.f impl_both_90_91.f cts
 simp only [iLeastCount_eq, iMostCount_eq, Option.bind_some, impl_both_90_91.j0]
 generalize tld (dOk n d && tOk t) (leastC n d t) = p
 generalize tld (dOk n d && tOk t) (mostC n d t) = q
 by_cases c1 : p.2 = true <;> by_cases c2 : q.2 = true <;> simp [c1, c2]
theorem iIvalOk_eq (a b : Int) : impl_IvalOk.f a b = some (decide (-1000000000000 ≤ a ∧ a ≤ b ∧ b ≤ 1000000000000)) := by
 unfold impl_IvalOk.f
 by_cases h : -1000000000000 ≤ a <;> by_cases h2 : a ≤ b <;> simp [h, h2]
theorem iClamp_eq (k : Nat) (n d t w : Int) : impl_Clamp.f (k + 1) n d t w = some (clamp n d t w) := by
 unfold impl_Clamp.f clamp
 simp only [icounts_eq, Option.bind_some]
 by_cases c : (cts n d t).2.2 = true
 ·rw [if_pos c, if_pos c]
  obtain ⟨h1, h2, e1, e2, h3⟩ := cts_in c
  unfold impl_Nearest.f
  have b1 := leastC_bd h1 h2
  have b2 := mostC_bd h1 h2
  simp only [iIvalOk_eq, Option.bind_some, decide_eq_true_eq]
  rw [if_pos (by rw [e1, e2]; omega)]
  rfl
 ·rw [if_neg c, if_neg c]
theorem iOscStep_eq (k : Nat) (n d t c b w : Int) : impl_OscStep.f (k + 1) n d t c b w = some (oStep n d t c b w) := by
 unfold impl_OscStep.f oStep
 simp only [iOscOk_eq, iClamp_eq, Option.bind_some, isTime_eq, decide_eq_true_eq, impl_OscStep.j0]
 by_cases c1 : oOk n d t c = true
 ·rw [if_pos c1, if_pos c1]
  have g := oOk_iff.1 c1
  by_cases c2 : (clamp n d b w).2 = true
  ·rw [if_pos c2]
   obtain ⟨_, h2, _, _, h3, h4⟩ := clamp_bd c2
   have h5 := tOk_iff.1 h2
   rw [w64 (x := t + b) (by omega) (by omega), w64 (x := c + (clamp n d b w).1) (by omega) (by omega)]
   by_cases c3 : t + b ≤ 1000000000000
   ·rw [if_pos (by omega)]
    by_cases c4 : c + (clamp n d b w).1 ≤ 1000000000000
    ·simp only [decide_eq_true (show 0 ≤ c + (clamp n d b w).1 ∧ c + (clamp n d b w).1 ≤ 1000000000000 by omega), Bool.not_true, Bool.false_eq_true, if_false]
     rw [if_pos ⟨c2, c3, c4⟩]
    ·simp only [decide_eq_false (show ¬ (0 ≤ c + (clamp n d b w).1 ∧ c + (clamp n d b w).1 ≤ 1000000000000) by omega), Bool.not_false, if_true]
     rw [if_neg (fun h => c4 h.2.2)]
   ·rw [if_neg (by omega)]
    simp only [if_true]
    rw [if_neg (fun h => c3 h.2.1)]
  ·rw [if_neg c2]
   simp only [if_true]
   rw [if_neg (fun h => c2 h.1)]
 ·rw [if_neg c1, if_neg c1]
theorem ev1 {α : Type} {g : Nat → Option α} {r : α} (h : ∀ k, g (k + 1) = some r) : Ev g r := ⟨1, fun k hk => by obtain ⟨m, rfl⟩ : ∃ m, k = m + 1 := ⟨k - 1, by omega⟩; exact h m⟩

theorem iOscRun_l0 (l : List SR) (hl : l.length ≤ 200) (q : Nat) : ∀ (i : Nat) (n d t c : Int) (acc : List MK), acc.length + q ≤ 201 → i + q = l.length → Ev (fun k => impl_OscRun.l0 k l acc l (l.length : Int) (i : Int) n d t c) (oRun n d t c acc i (l.drop i)) := by
 induction q with
 | zero =>
  intro i n d t c acc ha h
  refine Ev.step (fun k => by simp only [impl_OscRun.l0]; rfl) ?_
  simp only [show ¬ ((i : Int) < (l.length : Int)) by omega, if_false]
  rw [List.drop_eq_nil_of_le (by omega), oRun, show (l.length : Int) = (i : Int) by omega]
  exact Ev.now _
 | succ q ih =>
  intro i n d t c acc ha h
  refine Ev.step (fun k => by simp only [impl_OscRun.l0]; rfl) ?_
  simp only [show (i : Int) < (l.length : Int) by omega, show (0 : Int) ≤ (i : Int) by omega, if_true]
  refine Ev.bind (ev1 fun k => iOscStep_eq k _ _ _ _ _ _) ?_
  rw [rdSR_nat l i (by omega), List.drop_eq_getElem_cons (show i < l.length by omega), oRun, w64 (by omega) (by omega)]
  obtain ⟨o, ho⟩ : ∃ o, oStep n d t c (l[i]'(by omega)).f0 (l[i]'(by omega)).f1 = o := ⟨_, rfl⟩
  rw [ho]
  by_cases cc : o.2.2.2.2 = true
  ·simp only [cc, if_true, show acc.length < 8796093022208 by omega]
   exact ih (i + 1) _ _ _ _ _ (by rw [List.length_append]; simp only [List.length_cons, List.length_nil]; omega) (by omega)
  ·simp only [cc, if_false]
   exact Ev.now _
theorem iOscRun_ev (n d t c : Int) (l : List SR) : Ev (fun k => impl_OscRun.f k n d t c l) (oscRun n d t c l) := by
 unfold impl_OscRun.f oscRun
 simp only [iOscOk_eq, Option.bind_some]
 by_cases c1 : oOk n d t c = true
 ·simp only [c1, if_true, true_and]
  refine Ev.step (fun k => by simp only [impl_OscRun.j0]; rfl) ?_
  by_cases c2 : l.length ≤ 200
  ·simp only [show ¬ ((l.length : Int) > 200) by omega, decide_false, Bool.false_eq_true, if_false, c2, if_true]
   have := iOscRun_l0 l c2 l.length 0 n d t c [⟨t, c⟩] (by simp only [List.length_cons, List.length_nil]; omega) (by omega)
   simpa using this
  ·simp only [show (l.length : Int) > 200 by omega, decide_true, if_true, c2, if_false]
   exact Ev.now _
 ·simp only [c1, if_false, false_and]
  refine Ev.step (fun k => by simp only [impl_OscRun.j0]; rfl) ?_
  simp only [if_true]
  exact Ev.now _
theorem l1In_eq (a b c : Int) : spec_l1In.f a b c = some (decide (b ≤ a ∧ a ≤ c)) := by
 unfold spec_l1In.f
 by_cases h : b ≤ a <;> simp [h]
theorem sDriftOk_eq (n d : Int) : spec_DriftOk.f n d = some (decide (1 ≤ d ∧ d ≤ 1000000 ∧ 0 ≤ n ∧ 2 * n ≤ d)) := by
 unfold spec_DriftOk.f
 simp only [l1In_eq, Option.bind_some, decide_eq_true_eq]
 by_cases h : 1 ≤ d ∧ d ≤ 1000000
 ·rw [if_pos h]
  by_cases h2 : 0 ≤ n ∧ n ≤ d
  ·rw [if_pos h2, w64 (by omega) (by omega)]
   simp only [Option.some.injEq, decide_eq_decide]
   omega
  ·rw [if_neg h2]
   simp only [Option.some.injEq]
   exact (decide_eq_false (by omega)).symm
 ·rw [if_neg h]
  simp only [Option.some.injEq]
  exact (decide_eq_false (by omega)).symm
theorem l2Time_eq (a : Int) : spec_l2Time.f a = some (decide (0 ≤ a ∧ a ≤ 1000000000000)) := by
 unfold spec_l2Time.f
 rw [l1In_eq]
 rfl
theorem sOscOk_eq (n d t c : Int) : spec_OscOk.f n d t c = some (oOk n d t c) := by
 unfold spec_OscOk.f oOk
 simp only [sDriftOk_eq, l2Time_eq, Option.bind_some]
 change (if dOk n d = true then (if tOk t = true then some (tOk c) else some false) else some false) = _
 cases dOk n d <;> cases tOk t <;> simp
theorem l2Told_eq (v : Int) : spec_l2Told.f v = some (tld true v) := by
 unfold spec_l2Told.f tld
 by_cases c : v > 1000000000000
 ·rw [if_pos c, if_neg (by omega)]
 ·rw [if_neg c, if_pos ⟨rfl, by omega⟩]
theorem sLeastCount_eq (k : Nat) (n d c : Int) : spec_LeastCount.f (k + 1) n d c = some (tld (dOk n d && tOk c) (leastC n d c)) := by
 unfold spec_LeastCount.f
 simp only [sDriftOk_eq, l2Time_eq, Option.bind_some, spec_LeastCount.j0, if_true]
 change (if dOk n d = true then (if (!tOk c) = true then _ else _) else _) = _
 by_cases c1 : dOk n d = true
 ·rw [if_pos c1]
  by_cases c2 : tOk c = true
  ·rw [if_neg (by simp [c2])]
   have h1 := dOk_iff.1 c1
   have h2 := tOk_iff.1 c2
   have h3 := mul_bd h2.1 h2.2 (show 0 ≤ d - n by omega) (show d - n ≤ 1000000 by omega)
   rw [w64 (x := d - n) (by omega) (by omega), w64 (x := c * (d - n)) (by omega) (by omega), upv _ _ (by omega) h3.1 (by omega), c1, c2]
   simp only [Option.bind_some, l2Told_eq]
   rfl
  ·rw [if_pos (by simp [c2])]
   simp [tld, c2]
 ·rw [if_neg c1]
  simp [tld, c1]
theorem sMostCount_eq (k : Nat) (n d c : Int) : spec_MostCount.f (k + 1) n d c = some (tld (dOk n d && tOk c) (mostC n d c)) := by
 unfold spec_MostCount.f
 simp only [sDriftOk_eq, l2Time_eq, Option.bind_some, spec_MostCount.j0, if_true]
 change (if dOk n d = true then (if (!tOk c) = true then _ else _) else _) = _
 by_cases c1 : dOk n d = true
 ·rw [if_pos c1]
  by_cases c2 : tOk c = true
  ·rw [if_neg (by simp [c2])]
   have h1 := dOk_iff.1 c1
   have h2 := tOk_iff.1 c2
   have h3 := mul_bd h2.1 h2.2 (show 0 ≤ d + n by omega) (show d + n ≤ 2000000 by omega)
   rw [w64 (x := d + n) (by omega) (by omega), w64 (x := c * (d + n)) (by omega) (by omega), downv _ _ (by omega) (by omega) (by omega), c1, c2]
   simp only [Option.bind_some, l2Told_eq]
   rfl
  ·rw [if_pos (by simp [c2])]
   simp [tld, c2]
 ·rw [if_neg c1]
  simp [tld, c1]

theorem l1Max_eq (a b : Int) : spec_l1Max.f a b = some (mx a b) := by
 unfold spec_l1Max.f mx
 by_cases h : a > b
 ·rw [if_pos h, if_neg (by omega)]
 ·rw [if_neg h]
  by_cases h2 : a < b
  ·rw [if_pos h2]
  ·rw [if_neg h2]
   have : a = b := by omega
   rw [this]
theorem l1Min_eq (a b : Int) : spec_l1Min.f a b = some (mn a b) := by
 unfold spec_l1Min.f mn
 by_cases h : a < b
 ·rw [if_pos h, if_neg (by omega)]
 ·rw [if_neg h]
  by_cases h2 : b < a
  ·rw [if_pos h2]
  ·rw [if_neg h2]
   have : a = b := by omega
   rw [this]
theorem sClamp_j0 (k : Nat) (n d t w : Int) (c : (cts n d t).2.2 = true) : spec_Clamp.j0 (k + 1) w (leastC n d t) (mostC n d t) false = some (mx (leastC n d t) (mn (mostC n d t) w), true) := by
 obtain ⟨h1, h2, _, _, h3⟩ := cts_in c
 have b1 := leastC_bd h1 h2
 have b2 := mostC_bd h1 h2
 simp only [spec_Clamp.j0, Bool.false_eq_true, if_false, l1Max_eq, l1Min_eq, Option.bind_some]
 congr 1
 refine Prod.ext ?_ rfl
 simp only
 unfold mx mn
 omega
theorem sClamp_eq (k : Nat) (n d t w : Int) : spec_Clamp.f (k + 1) n d t w = some (clamp n d t w) := by
 unfold spec_Clamp.f clamp
 simp only [sLeastCount_eq, sMostCount_eq, Option.bind_some]
 by_cases c : (cts n d t).2.2 = true
 ·obtain ⟨h1, h2, e1, e2, h3⟩ := cts_in c
  have b1 := leastC_bd h1 h2
  have b2 := mostC_bd h1 h2
  rw [if_pos c, e1, e2, h1, h2, Bool.and_self, tld_true, tld_true, if_pos (show leastC n d t ≤ 1000000000000 by omega), if_pos h3]
  simp only [if_true, Bool.not_true]
  exact sClamp_j0 k n d t w c
 ·rw [if_neg c]
  unfold cts at c
  by_cases c1 : (tld (dOk n d && tOk t) (leastC n d t)).2 = true
  ·rw [if_pos c1] at c ⊢
   by_cases c2 : (tld (dOk n d && tOk t) (mostC n d t)).2 = true
   ·rw [if_pos c2] at c
    simp at c
   ·rw [Bool.not_eq_true] at c2
    rw [c2]
    simp [spec_Clamp.j0]
  ·rw [if_neg c1]
   simp [spec_Clamp.j0]
theorem sOscStep_eq (k : Nat) (n d t c b w : Int) : spec_OscStep.f (k + 1) n d t c b w = some (oStep n d t c b w) := by
 unfold spec_OscStep.f oStep
 simp only [sOscOk_eq, sClamp_eq, Option.bind_some, spec_OscStep.j0]
 by_cases c1 : oOk n d t c = true
 ·rw [if_pos c1, if_pos c1]
  have g := oOk_iff.1 c1
  by_cases c2 : (clamp n d b w).2 = true
  ·rw [if_pos c2]
   obtain ⟨_, h2, _, _, h3, h4⟩ := clamp_bd c2
   have h5 := tOk_iff.1 h2
   rw [w64 (x := t + b) (by omega) (by omega), w64 (x := c + (clamp n d b w).1) (by omega) (by omega)]
   by_cases c3 : t + b ≤ 1000000000000
   ·rw [if_neg (by omega)]
    by_cases c4 : c + (clamp n d b w).1 ≤ 1000000000000
    ·simp only [decide_eq_false (show ¬ (c + (clamp n d b w).1 > 1000000000000) by omega), Bool.false_eq_true, if_false]
     rw [if_pos ⟨c2, c3, c4⟩]
    ·simp only [decide_eq_true (show c + (clamp n d b w).1 > 1000000000000 by omega), if_true]
     rw [if_neg (fun h => c4 h.2.2)]
   ·rw [if_pos (by omega)]
    simp only [if_true]
    rw [if_neg (fun h => c3 h.2.1)]
  ·rw [if_neg c2]
   simp only [if_true]
   rw [if_neg (fun h => c2 h.1)]
 ·rw [if_neg c1, if_neg c1]
theorem sOscRun_l0 (l : List SR) (hl : l.length ≤ 200) (q : Nat) : ∀ (i : Nat) (n d t c : Int) (acc : List MK), acc.length + q ≤ 201 → i + q = l.length → Ev (fun k => spec_OscRun.l0 k l acc (i : Int) n d t c) (oRun n d t c acc i (l.drop i)) := by
 induction q with
 | zero =>
  intro i n d t c acc ha h
  refine Ev.step (fun k => by simp only [spec_OscRun.l0]; rfl) ?_
  simp only [show ¬ ((i : Int) < (l.length : Int)) by omega, if_false]
  rw [List.drop_eq_nil_of_le (by omega), oRun, show (l.length : Int) = (i : Int) by omega]
  exact Ev.now _
 | succ q ih =>
  intro i n d t c acc ha h
  refine Ev.step (fun k => by simp only [spec_OscRun.l0]; rfl) ?_
  simp only [show (i : Int) < (l.length : Int) by omega, show (0 : Int) ≤ (i : Int) by omega, if_true]
  refine Ev.bind (ev1 fun k => sOscStep_eq k _ _ _ _ _ _) ?_
  rw [rdSR_nat l i (by omega), List.drop_eq_getElem_cons (show i < l.length by omega), oRun, w64 (by omega) (by omega)]
  obtain ⟨o, ho⟩ : ∃ o, oStep n d t c (l[i]'(by omega)).f0 (l[i]'(by omega)).f1 = o := ⟨_, rfl⟩
  rw [ho]
  by_cases cc : o.2.2.2.2 = true
  ·simp only [cc, if_true, show acc.length < 8796093022208 by omega]
   exact ih (i + 1) _ _ _ _ _ (by rw [List.length_append]; simp only [List.length_cons, List.length_nil]; omega) (by omega)
  ·simp only [cc, if_false]
   exact Ev.now _
theorem sOscRun_ev (n d t c : Int) (l : List SR) : Ev (fun k => spec_OscRun.f k n d t c l) (oscRun n d t c l) := by
 unfold spec_OscRun.f oscRun
 simp only [sOscOk_eq, Option.bind_some]
 by_cases c1 : oOk n d t c = true
 ·simp only [c1, if_true, true_and]
  refine Ev.step (fun k => by simp only [spec_OscRun.j0]; rfl) ?_
  by_cases c2 : l.length ≤ 200
  ·simp only [show ¬ ((l.length : Int) > 200) by omega, decide_false, Bool.false_eq_true, if_false, c2, if_true]
   have := sOscRun_l0 l c2 l.length 0 n d t c [⟨t, c⟩] (by simp only [List.length_cons, List.length_nil]; omega) (by omega)
   simpa using this
  ·simp only [show (l.length : Int) > 200 by omega, decide_true, if_true, c2, if_false]
   exact Ev.now _
 ·simp only [c1, if_false, false_and]
  refine Ev.step (fun k => by simp only [spec_OscRun.j0]; rfl) ?_
  simp only [if_true]
  exact Ev.now _
theorem iMay_eq (n d c t : Int) : impl_MayCount.f n d c t = some (mayC n d c t) := by
 unfold impl_MayCount.f mayC
 simp only [iDriftOk_eq, isTime_eq, Option.bind_some]
 change (if dOk n d = true then (if tOk c = true then (if tOk t = true then _ else _) else _) else _) = _
 by_cases h1 : dOk n d = true
 ·by_cases h2 : tOk c = true
  ·by_cases h3 : tOk t = true
   ·obtain ⟨e1, e2, e3, e4, e5⟩ := may_ws h1 h2 h3
    rw [if_pos h1, if_pos h2, if_pos h3, h1, h2, h3, e1, e2, e3, e4, e5]
    by_cases h4 : c * (d - n) ≤ t * d
    ·rw [if_pos h4]; simp [h4]
    ·rw [if_neg h4]; simp [h4]
   ·rw [if_pos h1, if_pos h2, if_neg h3]; simp [h3]
  ·rw [if_pos h1, if_neg h2]; simp [h2]
 ·rw [if_neg h1]; simp [h1]
def pMarksOk (j i : Nat) : Bool := decide (j + 1 = i)
theorem iMarksOk_cb (l : List MK) (i j : Nat) (hj : j < i) (hi : i < l.length) (hl : l.length ≤ 201) : impl_MarksOk_1.f (j : Int) (i : Int) = some (pMarksOk j i) := by
 unfold impl_MarksOk_1.f pMarksOk
 rw [w64 (by omega) (by omega)]
 by_cases c : j + 1 = i
 ·simp only [show (j : Int) + 1 = (i : Int) by omega, c, beq_self_eq_true, decide_true]
 ·simp [c]
  omega
theorem iMarksOk_l1 (l : List MK) (n dd : Int) (hl : l.length ≤ 201) (i : Nat) (hi : i < l.length) (v : Bool) (hv : Ev (fun k => impl_marksOk_46.l0 k l l (l.length : Int) (wrap64 ((i : Int) + 1)) n dd) v) (m0 m1 : Int) (d : Nat) : ∀ j : Nat, j + d = i →
  Ev (fun k => impl_marksOk_46.l1 k l (i : Int) l (l.length : Int) (i : Int) (l.take i) ((l.take i).length : Int) (j : Int) n dd m0 m1) (allF (fun j => !pMarksOk j i || mayC n dd (wrap64 (m0 - (rd_T38 l (j : Int)).f0)) (wrap64 (m1 - (rd_T38 l (j : Int)).f1))) d j && v) := by
 have e : ((l.take i).length : Int) = (i : Int) := by rw [List.length_take]; omega
 rw [e]
 induction d with
 | zero =>
  intro j h
  refine Ev.step (fun k => by simp only [impl_marksOk_46.l1]; rfl) ?_
  simp only [show ¬ ((j : Int) < (i : Int)) by omega, if_false, allF, Bool.true_and]
  exact hv
 | succ d ih =>
  intro j h
  refine Ev.step (fun k => by simp only [impl_marksOk_46.l1]; rfl) ?_
  rw [e]
  simp only [show (j : Int) < (i : Int) by omega, show (0 : Int) ≤ (j : Int) by omega, if_true, iMarksOk_cb l i j (by omega) hi hl, Option.bind_some, iMay_eq]
  rw [rdM_take l i j (by omega), allF]
  by_cases c : pMarksOk j i = true
  ·simp only [c, if_true, Bool.not_true, Bool.false_or]
   generalize mayC n dd (wrap64 (m0 - (rd_T38 l (j : Int)).f0)) (wrap64 (m1 - (rd_T38 l (j : Int)).f1)) = b
   refine Ev.step (fun k => by simp only [impl_marksOk_46.j4]; rfl) ?_
   rw [w64 (x := (j : Int) + 1) (by omega) (by omega)]
   by_cases cb : b = true
   ·simp only [cb, Bool.not_true, Bool.false_eq_true, if_false, Bool.true_and]
    have ih' := ih (j + 1) (by omega)
    exact ih'
   ·rw [Bool.not_eq_true] at cb
    simp only [cb, Bool.not_false, if_true, Bool.false_and]
    exact Ev.now _
  ·rw [Bool.not_eq_true] at c
   simp only [c, Bool.false_eq_true, if_false, Bool.not_false, Bool.true_or, Bool.true_and]
   refine Ev.step (fun k => by simp only [impl_marksOk_46.j4]; rfl) ?_
   rw [w64 (x := (j : Int) + 1) (by omega) (by omega)]
   simp only [Bool.false_eq_true, if_false]
   have ih' := ih (j + 1) (by omega)
   exact ih'
theorem iMarksOk_l0 (l : List MK) (n dd : Int) (hl : l.length ≤ 201) (d : Nat) : ∀ i : Nat, i + d = l.length →
  Ev (fun k => impl_marksOk_46.l0 k l l (l.length : Int) (i : Int) n dd) (allF (fun i => tk (rd_T38 l (i : Int)) && allF (fun j => !pMarksOk j i || may2 n dd (rd_T38 l (j : Int)) (rd_T38 l (i : Int))) i 0) d i) := by
 induction d with
 | zero =>
  intro i h
  refine Ev.step (fun k => by simp only [impl_marksOk_46.l0]; rfl) ?_
  simp only [show ¬ ((i : Int) < (l.length : Int)) by omega, if_false, allF]
  exact Ev.now _
 | succ d ih =>
  intro i h
  refine Ev.step (fun k => by simp only [impl_marksOk_46.l0]; rfl) ?_
  simp only [show (i : Int) < (l.length : Int) by omega, show (0 : Int) ≤ (i : Int) by omega, if_true, isTime_eq, Option.bind_some]
  rw [allF]
  unfold tk may2
  have ih' := ih (i + 1) (by omega)
  unfold tk may2 at ih'
  obtain ⟨m, hm⟩ : ∃ m, rd_T38 l (i : Int) = m := ⟨_, rfl⟩
  rw [hm]
  change Ev (fun k => if tOk m.f0 = true then impl_marksOk_46.j2 k l (i : Int) l (l.length : Int) (i : Int) (!tOk m.f1) n dd m.f0 m.f1 else impl_marksOk_46.j2 k l (i : Int) l (l.length : Int) (i : Int) true n dd m.f0 m.f1) _
  by_cases c1 : tOk m.f0 = true
  ·simp only [c1, if_true, Option.bind_some, Bool.true_and]
   refine Ev.step (fun k => by simp only [impl_marksOk_46.j2]; rfl) ?_
   by_cases c2 : tOk m.f1 = true
   ·simp only [c2, Bool.not_true, Bool.false_eq_true, if_false, show (0 : Int) ≤ (i : Int) by omega, show (i : Int) ≤ (l.length : Int) by omega, if_true, Option.bind_some, Int.toNat_natCast, Bool.true_and]
    refine iMarksOk_l1 l n dd hl i (by omega) _ ?_ m.f0 m.f1 i 0 (by omega)
    rw [w64 (by omega) (by omega)]
    exact ih'
   ·rw [Bool.not_eq_true] at c2
    simp only [c2, Bool.not_false, if_true, Bool.false_and]
    exact Ev.now _
  ·rw [Bool.not_eq_true] at c1
   simp only [c1, Bool.false_eq_true, if_false, Bool.false_and]
   refine Ev.step (fun k => by simp only [impl_marksOk_46.j2]; rfl) ?_
   simp only [if_true]
   exact Ev.now _
theorem iMarksOk_ev (l : List MK) (n dd : Int) : Ev (fun k => impl_MarksOk.f k n dd l) (mks pMarksOk n dd l) := by
 unfold impl_MarksOk.f impl_marksOk_46.f mks
 simp only [iDriftOk_eq, in_eq, Option.bind_some]
 refine Ev.bind (a := mks pMarksOk n dd l) ?_ (Ev.now _)
 unfold mks
 change Ev (fun k => if dOk n dd = true then (fun k => impl_marksOk_46.j0 k l (!lenOk l) n dd) k else _) _
 by_cases c1 : dOk n dd = true
 ·simp only [c1, if_true, Bool.true_and]
  refine Ev.step (fun k => by simp only [impl_marksOk_46.j0]; rfl) ?_
  by_cases c2 : lenOk l = true
  ·simp only [c2, Bool.not_true, Bool.false_eq_true, if_false, Bool.true_and]
   have h := decide_eq_true_iff.1 c2
   exact iMarksOk_l0 l n dd (by omega) l.length 0 (by omega)
  ·rw [Bool.not_eq_true] at c2
   simp only [c2, Bool.not_false, if_true, Bool.false_and]
   exact Ev.now _
 ·rw [Bool.not_eq_true] at c1
  simp only [c1, Bool.false_eq_true, if_false, Bool.false_and]
  refine Ev.step (fun k => by simp only [impl_marksOk_46.j0]; rfl) ?_
  simp only [if_true]
  exact Ev.now _
def pMarksAll (j i : Nat) : Bool := true
theorem iMarksAll_cb (l : List MK) (i j : Nat) (hj : j < i) (hi : i < l.length) (hl : l.length ≤ 201) : impl_MarksAll_1.f (j : Int) (i : Int) = some (pMarksAll j i) := by
 unfold impl_MarksAll_1.f pMarksAll
 rfl
theorem iMarksAll_l1 (l : List MK) (n dd : Int) (hl : l.length ≤ 201) (i : Nat) (hi : i < l.length) (v : Bool) (hv : Ev (fun k => impl_marksOk_48.l0 k l l (l.length : Int) (wrap64 ((i : Int) + 1)) n dd) v) (m0 m1 : Int) (d : Nat) : ∀ j : Nat, j + d = i →
  Ev (fun k => impl_marksOk_48.l1 k l (i : Int) l (l.length : Int) (i : Int) (l.take i) ((l.take i).length : Int) (j : Int) n dd m0 m1) (allF (fun j => !pMarksAll j i || mayC n dd (wrap64 (m0 - (rd_T38 l (j : Int)).f0)) (wrap64 (m1 - (rd_T38 l (j : Int)).f1))) d j && v) := by
 have e : ((l.take i).length : Int) = (i : Int) := by rw [List.length_take]; omega
 rw [e]
 induction d with
 | zero =>
  intro j h
  refine Ev.step (fun k => by simp only [impl_marksOk_48.l1]; rfl) ?_
  simp only [show ¬ ((j : Int) < (i : Int)) by omega, if_false, allF, Bool.true_and]
  exact hv
 | succ d ih =>
  intro j h
  refine Ev.step (fun k => by simp only [impl_marksOk_48.l1]; rfl) ?_
  rw [e]
  simp only [show (j : Int) < (i : Int) by omega, show (0 : Int) ≤ (j : Int) by omega, if_true, iMarksAll_cb l i j (by omega) hi hl, Option.bind_some, iMay_eq]
  rw [rdM_take l i j (by omega), allF]
  by_cases c : pMarksAll j i = true
  ·simp only [c, if_true, Bool.not_true, Bool.false_or]
   generalize mayC n dd (wrap64 (m0 - (rd_T38 l (j : Int)).f0)) (wrap64 (m1 - (rd_T38 l (j : Int)).f1)) = b
   refine Ev.step (fun k => by simp only [impl_marksOk_48.j4]; rfl) ?_
   rw [w64 (x := (j : Int) + 1) (by omega) (by omega)]
   by_cases cb : b = true
   ·simp only [cb, Bool.not_true, Bool.false_eq_true, if_false, Bool.true_and]
    have ih' := ih (j + 1) (by omega)
    exact ih'
   ·rw [Bool.not_eq_true] at cb
    simp only [cb, Bool.not_false, if_true, Bool.false_and]
    exact Ev.now _
  ·rw [Bool.not_eq_true] at c
   simp only [c, Bool.false_eq_true, if_false, Bool.not_false, Bool.true_or, Bool.true_and]
   refine Ev.step (fun k => by simp only [impl_marksOk_48.j4]; rfl) ?_
   rw [w64 (x := (j : Int) + 1) (by omega) (by omega)]
   simp only [Bool.false_eq_true, if_false]
   have ih' := ih (j + 1) (by omega)
   exact ih'
theorem iMarksAll_l0 (l : List MK) (n dd : Int) (hl : l.length ≤ 201) (d : Nat) : ∀ i : Nat, i + d = l.length →
  Ev (fun k => impl_marksOk_48.l0 k l l (l.length : Int) (i : Int) n dd) (allF (fun i => tk (rd_T38 l (i : Int)) && allF (fun j => !pMarksAll j i || may2 n dd (rd_T38 l (j : Int)) (rd_T38 l (i : Int))) i 0) d i) := by
 induction d with
 | zero =>
  intro i h
  refine Ev.step (fun k => by simp only [impl_marksOk_48.l0]; rfl) ?_
  simp only [show ¬ ((i : Int) < (l.length : Int)) by omega, if_false, allF]
  exact Ev.now _
 | succ d ih =>
  intro i h
  refine Ev.step (fun k => by simp only [impl_marksOk_48.l0]; rfl) ?_
  simp only [show (i : Int) < (l.length : Int) by omega, show (0 : Int) ≤ (i : Int) by omega, if_true, isTime_eq, Option.bind_some]
  rw [allF]
  unfold tk may2
  have ih' := ih (i + 1) (by omega)
  unfold tk may2 at ih'
  obtain ⟨m, hm⟩ : ∃ m, rd_T38 l (i : Int) = m := ⟨_, rfl⟩
  rw [hm]
  change Ev (fun k => if tOk m.f0 = true then impl_marksOk_48.j2 k l (i : Int) l (l.length : Int) (i : Int) (!tOk m.f1) n dd m.f0 m.f1 else impl_marksOk_48.j2 k l (i : Int) l (l.length : Int) (i : Int) true n dd m.f0 m.f1) _
  by_cases c1 : tOk m.f0 = true
  ·simp only [c1, if_true, Option.bind_some, Bool.true_and]
   refine Ev.step (fun k => by simp only [impl_marksOk_48.j2]; rfl) ?_
   by_cases c2 : tOk m.f1 = true
   ·simp only [c2, Bool.not_true, Bool.false_eq_true, if_false, show (0 : Int) ≤ (i : Int) by omega, show (i : Int) ≤ (l.length : Int) by omega, if_true, Option.bind_some, Int.toNat_natCast, Bool.true_and]
    refine iMarksAll_l1 l n dd hl i (by omega) _ ?_ m.f0 m.f1 i 0 (by omega)
    rw [w64 (by omega) (by omega)]
    exact ih'
   ·rw [Bool.not_eq_true] at c2
    simp only [c2, Bool.not_false, if_true, Bool.false_and]
    exact Ev.now _
  ·rw [Bool.not_eq_true] at c1
   simp only [c1, Bool.false_eq_true, if_false, Bool.false_and]
   refine Ev.step (fun k => by simp only [impl_marksOk_48.j2]; rfl) ?_
   simp only [if_true]
   exact Ev.now _
theorem iMarksAll_ev (l : List MK) (n dd : Int) : Ev (fun k => impl_MarksAll.f k n dd l) (mks pMarksAll n dd l) := by
 unfold impl_MarksAll.f impl_marksOk_48.f mks
 simp only [iDriftOk_eq, in_eq, Option.bind_some]
 refine Ev.bind (a := mks pMarksAll n dd l) ?_ (Ev.now _)
 unfold mks
 change Ev (fun k => if dOk n dd = true then (fun k => impl_marksOk_48.j0 k l (!lenOk l) n dd) k else _) _
 by_cases c1 : dOk n dd = true
 ·simp only [c1, if_true, Bool.true_and]
  refine Ev.step (fun k => by simp only [impl_marksOk_48.j0]; rfl) ?_
  by_cases c2 : lenOk l = true
  ·simp only [c2, Bool.not_true, Bool.false_eq_true, if_false, Bool.true_and]
   have h := decide_eq_true_iff.1 c2
   exact iMarksAll_l0 l n dd (by omega) l.length 0 (by omega)
  ·rw [Bool.not_eq_true] at c2
   simp only [c2, Bool.not_false, if_true, Bool.false_and]
   exact Ev.now _
 ·rw [Bool.not_eq_true] at c1
  simp only [c1, Bool.false_eq_true, if_false, Bool.false_and]
  refine Ev.step (fun k => by simp only [impl_marksOk_48.j0]; rfl) ?_
  simp only [if_true]
  exact Ev.now _
theorem iLeastTime_eq (n d c : Int) : impl_LeastTime.f n d c = some (tld (dOk n d && tOk c) (leastT n d c)) := by
 unfold impl_LeastTime.f impl_LeastTime_1.f
 simp only [iDriftOk_eq, isTime_eq, Option.bind_some, iup_eq]
 change (if dOk n d = true then (if tOk c = true then _ else _) else _) = _
 by_cases c1 : dOk n d = true
 ·rw [if_pos c1]
  by_cases c2 : tOk c = true
  ·rw [if_pos c2]
   have h1 := dOk_iff.1 c1
   have h2 := tOk_iff.1 c2
   have h3 := mul_bd h2.1 h2.2 (show 0 ≤ d by omega) h1.2.1
   rw [w64 (x := c * d) (by omega) (by omega), w64 (x := d + n) (by omega) (by omega), upv _ _ (by omega) h3.1 (by omega), c1, c2]
   simp only [Option.bind_some, Bool.and_self, tld, leastT, true_and]
   split <;> rfl
  ·rw [if_neg c2]
   simp [tld, c2]
 ·rw [if_neg c1]
  simp [tld, c1]
theorem iMostTime_eq (n d c : Int) : impl_MostTime.f n d c = some (tld (dOk n d && tOk c) (mostT n d c)) := by
 unfold impl_MostTime.f impl_MostTime_1.f
 simp only [iDriftOk_eq, isTime_eq, Option.bind_some]
 change (if dOk n d = true then (if tOk c = true then _ else _) else _) = _
 by_cases c1 : dOk n d = true
 ·rw [if_pos c1]
  by_cases c2 : tOk c = true
  ·rw [if_pos c2]
   have h1 := dOk_iff.1 c1
   have h2 := tOk_iff.1 c2
   have h3 := mul_bd h2.1 h2.2 (show 0 ≤ d by omega) h1.2.1
   have h4 := ediv_bd h3.1 (show 0 < d - n by omega)
   rw [w64 (x := c * d) (by omega) (by omega), w64 (x := d - n) (by omega) (by omega), if_neg (by omega), Int.tdiv_eq_ediv_of_nonneg h3.1, w64 (by omega) (by omega), c1, c2]
   simp only [Option.bind_some, Bool.and_self, tld, mostT, true_and]
   split <;> rfl
  ·rw [if_neg c2]
   simp [tld, c2]
 ·rw [if_neg c1]
  simp [tld, c1]
/-- The times of a count. -/
def btw (n d c : Int) : Int × Int × Bool := if (tld (dOk n d && tOk c) (leastT n d c)).2 = true then (if (tld (dOk n d && tOk c) (mostT n d c)).2 = true then ((tld (dOk n d && tOk c) (leastT n d c)).1, (tld (dOk n d && tOk c) (mostT n d c)).1, true) else (0, 0, false)) else (0, 0, false)
theorem iBetween_eq (k : Nat) (n d c : Int) : impl_Between.f (k + 1) n d c = some (btw n d c) := by
 unfold impl_Between.f impl_both_85_86.f btw
 simp only [iLeastTime_eq, iMostTime_eq, Option.bind_some, impl_both_85_86.j0]
 generalize tld (dOk n d && tOk c) (leastT n d c) = p
 generalize tld (dOk n d && tOk c) (mostT n d c) = q
 by_cases c1 : p.2 = true <;> by_cases c2 : q.2 = true <;> simp [c1, c2]
/-- What ElapsedAt tells. -/
def elap (n d : Int) (l : List MK) (a b : Int) : Int × Int × Bool := if mks (fun j i => decide (j + 1 = i)) n d l = true then (if 0 ≤ a ∧ a ≤ b ∧ b < (l.length : Int) then btw n d (wrap64 ((rd_T38 l b).f1 - (rd_T38 l a).f1)) else (0, 0, false)) else (0, 0, false)
theorem iElapsedAt_ev (n d : Int) (l : List MK) (a b : Int) : Ev (fun k => impl_ElapsedAt.f k n d l a b) (elap n d l a b) := by
 unfold impl_ElapsedAt.f elap
 refine Ev.bind (iMarksOk_ev l n d) ?_
 simp only [show pMarksOk = (fun j i => decide (j + 1 = i)) from rfl, in_eq, Option.bind_some, decide_eq_true_eq]
 by_cases c : mks (fun j i => decide (j + 1 = i)) n d l = true
 ·simp only [c, if_true]
  by_cases c1 : 0 ≤ a ∧ a ≤ b
  ·simp only [c1, and_self, if_true, true_and]
   refine Ev.step (fun k => by simp only [impl_ElapsedAt.j0]; rfl) ?_
   by_cases c2 : b ≥ (l.length : Int)
   ·simp only [c2, decide_true, if_true, show ¬ (b < (l.length : Int)) by omega, if_false]
    exact Ev.now _
   ·simp only [c2, decide_false, Bool.false_eq_true, if_false, show b < (l.length : Int) by omega, show 0 ≤ b by omega, show 0 ≤ a by omega, show a < (l.length : Int) by omega, if_true]
    refine Ev.bind (ev1 fun k => iBetween_eq k _ _ _) ?_
    exact Ev.now _
  ·simp only [c1, if_false, show ¬ (0 ≤ a ∧ a ≤ b ∧ b < (l.length : Int)) by omega]
   refine Ev.step (fun k => by simp only [impl_ElapsedAt.j0]; rfl) ?_
   simp only [if_true]
   exact Ev.now _
 ·simp only [c, if_false]
  refine Ev.step (fun k => by simp only [impl_ElapsedAt.j0]; rfl) ?_
  simp only [if_true]
  exact Ev.now _
theorem l3Marks_l0 (l : List MK) (hl : l.length ≤ 201) (d : Nat) : ∀ i : Nat, i + d = l.length → Ev (fun k => spec_l3Marks.l0 k l (i : Int)) (allF (fun i => tk (rd_T38 l (i : Int))) d i) := by
 induction d with
 | zero =>
  intro i h
  refine Ev.step (fun k => by simp only [spec_l3Marks.l0]; rfl) ?_
  simp only [show ¬ ((i : Int) < (l.length : Int)) by omega, if_false, allF]
  exact Ev.now _
 | succ d ih =>
  intro i h
  refine Ev.step (fun k => by simp only [spec_l3Marks.l0]; rfl) ?_
  simp only [show (i : Int) < (l.length : Int) by omega, show (0 : Int) ≤ (i : Int) by omega, if_true, l2Time_eq, Option.bind_some]
  rw [allF]
  have ih' := ih (i + 1) (by omega)
  unfold tk at ih' ⊢
  obtain ⟨m, hm⟩ : ∃ m, rd_T38 l (i : Int) = m := ⟨_, rfl⟩
  rw [hm]
  change Ev (fun k => if tOk m.f0 = true then (fun k => spec_l3Marks.j2 k l (i : Int) (!tOk m.f1)) k else spec_l3Marks.j2 k l (i : Int) true) _
  by_cases c1 : tOk m.f0 = true
  ·simp only [c1, if_true, Bool.true_and]
   refine Ev.step (fun k => by simp only [spec_l3Marks.j2]; rfl) ?_
   rw [w64 (by omega) (by omega)]
   by_cases c2 : tOk m.f1 = true
   ·simp only [c2, Bool.not_true, Bool.false_eq_true, if_false, Bool.true_and]
    exact ih'
   ·rw [Bool.not_eq_true] at c2
    simp only [c2, Bool.not_false, if_true, Bool.false_and]
    exact Ev.now _
  ·rw [Bool.not_eq_true] at c1
   simp only [c1, Bool.false_eq_true, if_false, Bool.false_and]
   refine Ev.step (fun k => by simp only [spec_l3Marks.j2]; rfl) ?_
   simp only [if_true]
   exact Ev.now _
def mks0 (n d : Int) (l : List MK) : Bool := dOk n d && (lenOk l && allF (fun i => tk (rd_T38 l (i : Int))) l.length 0)
theorem l3Marks_ev (l : List MK) (n dd : Int) : Ev (fun k => spec_l3Marks.f k n dd l) (mks0 n dd l) := by
 unfold spec_l3Marks.f mks0
 simp only [sDriftOk_eq, l1In_eq, Option.bind_some]
 change Ev (fun k => if dOk n dd = true then (fun k => spec_l3Marks.j0 k l (!lenOk l)) k else _) _
 by_cases c1 : dOk n dd = true
 ·simp only [c1, if_true, Bool.true_and]
  refine Ev.step (fun k => by simp only [spec_l3Marks.j0]; rfl) ?_
  by_cases c2 : lenOk l = true
  ·simp only [c2, Bool.not_true, Bool.false_eq_true, if_false, Bool.true_and]
   have h := decide_eq_true_iff.1 c2
   exact l3Marks_l0 l (by omega) l.length 0 (by omega)
  ·rw [Bool.not_eq_true] at c2
   simp only [c2, Bool.not_false, if_true, Bool.false_and]
   exact Ev.now _
 ·rw [Bool.not_eq_true] at c1
  simp only [c1, Bool.false_eq_true, if_false, Bool.false_and]
  refine Ev.step (fun k => by simp only [spec_l3Marks.j0]; rfl) ?_
  simp only [if_true]
  exact Ev.now _
theorem mks0_iff (n d : Int) (l : List MK) : mks0 n d l = true ↔ dOk n d = true ∧ (1 ≤ l.length ∧ l.length ≤ 201) ∧ (∀ i, i < l.length → tk (rd_T38 l (i : Int)) = true) := by
 unfold mks0 lenOk
 rw [Bool.and_eq_true, Bool.and_eq_true, allF_iff, decide_eq_true_iff]
 constructor
 ·rintro ⟨h1, h2, h3⟩
  exact ⟨h1, by omega, fun i hi => h3 i (by omega) (by omega)⟩
 ·rintro ⟨h1, h2, h3⟩
  exact ⟨h1, by omega, fun i _ hi => h3 i (by omega)⟩

theorem sMay_eq (n d c t : Int) : spec_MayCount.f n d c t = some (mayC n d c t) := by
 unfold spec_MayCount.f mayC
 simp only [sDriftOk_eq, l2Time_eq, Option.bind_some]
 change (if dOk n d = true then (if tOk c = true then (if tOk t = true then _ else _) else _) else _) = _
 by_cases h1 : dOk n d = true
 ·by_cases h2 : tOk c = true
  ·by_cases h3 : tOk t = true
   ·obtain ⟨e1, e2, e3, e4, e5⟩ := may_ws h1 h2 h3
    rw [if_pos h1, if_pos h2, if_pos h3, h1, h2, h3, e1, e2, e3, e4, e5]
    by_cases h4 : c * (d - n) ≤ t * d
    ·rw [if_pos (show t * d ≥ c * (d - n) from h4)]; simp [h4]
    ·rw [if_neg (show ¬ t * d ≥ c * (d - n) from h4)]; simp [h4]
   ·rw [if_pos h1, if_pos h2, if_neg h3]; simp [h3]
  ·rw [if_pos h1, if_neg h2]; simp [h2]
 ·rw [if_neg h1]; simp [h1]
theorem l3Two_eq (n d : Int) (a b : MK) : spec_l3Two.f n d a.f0 a.f1 b.f0 b.f1 = some (may2 n d a b) := by
 unfold spec_l3Two.f may2
 rw [sMay_eq]
 rfl
theorem sMarksOk_l0 (l : List MK) (n dd : Int) (hl : l.length ≤ 201) (d : Nat) : ∀ i : Nat, 1 ≤ i → i + d = l.length → Ev (fun k => spec_MarksOk.l0 k l (i : Int) n dd) (allF (fun i => may2 n dd (rd_T38 l ((i - 1 : Nat) : Int)) (rd_T38 l (i : Int))) d i) := by
 induction d with
 | zero =>
  intro i h1 h
  refine Ev.step (fun k => by simp only [spec_MarksOk.l0]; rfl) ?_
  simp only [show ¬ ((i : Int) < (l.length : Int)) by omega, if_false, allF]
  exact Ev.now _
 | succ d ih =>
  intro i h1 h
  refine Ev.step (fun k => by simp only [spec_MarksOk.l0]; rfl) ?_
  rw [w64 (x := (i : Int) - 1) (by omega) (by omega), w64 (x := (i : Int) + 1) (by omega) (by omega), show (i : Int) - 1 = ((i - 1 : Nat) : Int) by omega]
  simp only [show (i : Int) < (l.length : Int) by omega, show (0 : Int) ≤ (i : Int) by omega, show (0 : Int) ≤ ((i - 1 : Nat) : Int) by omega, show ((i - 1 : Nat) : Int) < (l.length : Int) by omega, if_true, l3Two_eq, Option.bind_some]
  rw [allF]
  generalize may2 n dd (rd_T38 l ((i - 1 : Nat) : Int)) (rd_T38 l (i : Int)) = b
  by_cases cb : b = true
  ·simp only [cb, if_true, Bool.true_and]
   exact ih (i + 1) (by omega) (by omega)
  ·rw [Bool.not_eq_true] at cb
   simp only [cb, Bool.false_eq_true, if_false, Bool.false_and]
   exact Ev.now _
theorem sMarksOk_ev (l : List MK) (n dd : Int) : Ev (fun k => spec_MarksOk.f k n dd l) (mks (fun j i => decide (j + 1 = i)) n dd l) := by
 unfold spec_MarksOk.f
 refine Ev.bind (l3Marks_ev l n dd) ?_
 by_cases c : mks0 n dd l = true
 ·simp only [c, if_true]
  have h := (mks0_iff n dd l).1 c
  have := sMarksOk_l0 l n dd h.2.1.2 (l.length - 1) 1 (by omega) (by omega)
  have e : mks (fun j i => decide (j + 1 = i)) n dd l = allF (fun i => may2 n dd (rd_T38 l ((i - 1 : Nat) : Int)) (rd_T38 l (i : Int))) (l.length - 1) 1 := by
   rw [Bool.eq_iff_iff, mks_iff, allF_iff]
   constructor
   ·intro h2 i h3 h4
    exact h2.2.2.2 i (i - 1) (by omega) (by omega) (by simp; omega)
   ·intro h2
    refine ⟨h.1, h.2.1, h.2.2, fun i j h3 h4 h5 => ?_⟩
    have h6 := of_decide_eq_true h5
    have := h2 i (by omega) (by omega)
    rw [← h6] at this ⊢
    exact this
  rw [e]
  exact this
 ·have e : mks (fun j i => decide (j + 1 = i)) n dd l = false := by
   rw [Bool.eq_false_iff]
   intro h
   have h2 := (mks_iff _ n dd l).1 h
   exact c ((mks0_iff n dd l).2 ⟨h2.1, h2.2.1, h2.2.2.1⟩)
  simp only [c, if_false, e]
  exact Ev.now _
theorem sLeastTime_eq (k : Nat) (n d c : Int) : spec_LeastTime.f (k + 1) n d c = some (tld (dOk n d && tOk c) (leastT n d c)) := by
 unfold spec_LeastTime.f
 simp only [sDriftOk_eq, l2Time_eq, Option.bind_some, spec_LeastTime.j0, if_true]
 change (if dOk n d = true then (if (!tOk c) = true then _ else _) else _) = _
 by_cases c1 : dOk n d = true
 ·rw [if_pos c1]
  by_cases c2 : tOk c = true
  ·rw [if_neg (by simp [c2])]
   have h1 := dOk_iff.1 c1
   have h2 := tOk_iff.1 c2
   have h3 := mul_bd h2.1 h2.2 (show 0 ≤ d by omega) h1.2.1
   rw [w64 (x := c * d) (by omega) (by omega), w64 (x := d + n) (by omega) (by omega), upv _ _ (by omega) h3.1 (by omega), c1, c2]
   simp only [Option.bind_some, l2Told_eq]
   rfl
  ·rw [if_pos (by simp [c2])]
   simp [tld, c2]
 ·rw [if_neg c1]
  simp [tld, c1]
theorem sMostTime_eq (k : Nat) (n d c : Int) : spec_MostTime.f (k + 1) n d c = some (tld (dOk n d && tOk c) (mostT n d c)) := by
 unfold spec_MostTime.f
 simp only [sDriftOk_eq, l2Time_eq, Option.bind_some, spec_MostTime.j0, if_true]
 change (if dOk n d = true then (if (!tOk c) = true then _ else _) else _) = _
 by_cases c1 : dOk n d = true
 ·rw [if_pos c1]
  by_cases c2 : tOk c = true
  ·rw [if_neg (by simp [c2])]
   have h1 := dOk_iff.1 c1
   have h2 := tOk_iff.1 c2
   have h3 := mul_bd h2.1 h2.2 (show 0 ≤ d by omega) h1.2.1
   rw [w64 (x := c * d) (by omega) (by omega), w64 (x := d - n) (by omega) (by omega), downv _ _ (by omega) (by omega) (by omega), c1, c2]
   simp only [Option.bind_some, l2Told_eq]
   rfl
  ·rw [if_pos (by simp [c2])]
   simp [tld, c2]
 ·rw [if_neg c1]
  simp [tld, c1]
theorem sBetween_eq (k : Nat) (n d c : Int) : spec_Between.f (k + 1) n d c = some (btw n d c) := by
 unfold spec_Between.f btw
 simp only [sLeastTime_eq, sMostTime_eq, Option.bind_some, spec_Between.j0]
 generalize tld (dOk n d && tOk c) (leastT n d c) = p
 generalize tld (dOk n d && tOk c) (mostT n d c) = q
 by_cases c1 : p.2 = true <;> by_cases c2 : q.2 = true <;> simp [c1, c2]
theorem sElap_j0 (n d : Int) (l : List MK) (a b : Int) : Ev (fun k => spec_ElapsedAt.j0 k l a b true n d) (0, 0, false) := by
 refine Ev.step (fun k => by simp only [spec_ElapsedAt.j0]; rfl) ?_
 simp only [if_true]
 exact Ev.now _
theorem sElapsedAt_ev (n d : Int) (l : List MK) (a b : Int) : Ev (fun k => spec_ElapsedAt.f k n d l a b) (elap n d l a b) := by
 unfold spec_ElapsedAt.f elap
 refine Ev.bind (sMarksOk_ev l n d) ?_
 by_cases c : mks (fun j i => decide (j + 1 = i)) n d l = true
 ·simp only [c, if_true]
  by_cases c1 : 0 ≤ a ∧ a ≤ b ∧ b < (l.length : Int)
  ·simp only [show ¬ (a < 0) by omega, show ¬ (b < a) by omega, show ¬ (b ≥ (l.length : Int)) by omega, if_false, decide_false]
   refine Ev.step (fun k => by simp only [spec_ElapsedAt.j0]; rfl) ?_
   simp only [Bool.false_eq_true, if_false, show b < (l.length : Int) by omega, show 0 ≤ b by omega, show 0 ≤ a by omega, show a ≤ b by omega, show a < (l.length : Int) by omega, and_self, if_true]
   refine Ev.bind (ev1 fun k => sBetween_eq k _ _ _) ?_
   exact Ev.now _
  ·rw [if_neg c1]
   by_cases d1 : a < 0
   ·simp only [d1, if_true]
    exact sElap_j0 n d l a b
   ·by_cases d2 : b < a
    ·simp only [d1, d2, if_true, if_false]
     exact sElap_j0 n d l a b
    ·simp only [d1, d2, show b ≥ (l.length : Int) by omega, decide_true, if_false]
     exact sElap_j0 n d l a b
 ·simp only [c, if_false]
  exact sElap_j0 n d l a b
def ok2 (a b : Int) : Bool := decide (-1000000000000 ≤ a ∧ a ≤ b ∧ b ≤ 1000000000000)
theorem ok2_iff {a b : Int} : ok2 a b = true ↔ -1000000000000 ≤ a ∧ a ≤ b ∧ b ≤ 1000000000000 := by unfold ok2; exact decide_eq_true_iff
def told2 (a b : Int) : Int × Int × Bool := if ok2 a b = true then (a, b, true) else (0, 0, false)
theorem iHolds_eq (a b x : Int) : impl_Holds.f a b x = some (ok2 a b && decide (a ≤ x ∧ x ≤ b)) := by
 unfold impl_Holds.f
 simp only [iIvalOk_eq, in_eq, Option.bind_some]
 change (if ok2 a b = true then _ else _) = _
 by_cases c : ok2 a b = true
 ·rw [if_pos c, c, Bool.true_and]
 ·rw [if_neg c]
  rw [Bool.not_eq_true] at c
  rw [c, Bool.false_and]
theorem mayC_T {n d c t : Int} (hd : dOk n d = true) (ht : tOk t = true) : mayC n d c t = true ↔ tOk c = true ∧ leastT n d t ≤ c ∧ c ≤ mostT n d t := by
 have g := dOk_iff.1 hd
 have e1 : leastT n d t ≤ c ↔ t * d ≤ c * (d + n) := by
  unfold leastT
  have : -c ≤ -(t * d) / (d + n) ↔ -c * (d + n) ≤ -(t * d) := Int.le_ediv_iff_mul_le (by omega)
  rw [Int.neg_mul] at this
  omega
 have e2 : c ≤ mostT n d t ↔ c * (d - n) ≤ t * d := by
  unfold mostT
  exact Int.le_ediv_iff_mul_le (by omega)
 unfold mayC
 rw [Bool.and_eq_true, Bool.and_eq_true, Bool.and_eq_true, Bool.and_eq_true, decide_eq_true_iff, decide_eq_true_iff, e1, e2]
 constructor
 ·rintro ⟨_, h1, _, h3, h4⟩
  exact ⟨h1, h4, h3⟩
 ·rintro ⟨h1, h4, h3⟩
  exact ⟨hd, h1, ht, h3, h4⟩
theorem mayC_C {n d c t : Int} (hd : dOk n d = true) (hc : tOk c = true) : mayC n d c t = true ↔ tOk t = true ∧ leastC n d c ≤ t ∧ t ≤ mostC n d c := by
 have g := dOk_iff.1 hd
 have e1 : leastC n d c ≤ t ↔ c * (d - n) ≤ t * d := by
  unfold leastC
  have : -t ≤ -(c * (d - n)) / d ↔ -t * d ≤ -(c * (d - n)) := Int.le_ediv_iff_mul_le (by omega)
  rw [Int.neg_mul] at this
  omega
 have e2 : t ≤ mostC n d c ↔ t * d ≤ c * (d + n) := by
  unfold mostC
  exact Int.le_ediv_iff_mul_le (by omega)
 unfold mayC
 rw [Bool.and_eq_true, Bool.and_eq_true, Bool.and_eq_true, Bool.and_eq_true, decide_eq_true_iff, decide_eq_true_iff, e1, e2]
 constructor
 ·rintro ⟨_, h1, h2, h3, h4⟩
  exact ⟨h2, h3, h4⟩
 ·rintro ⟨h2, h3, h4⟩
  exact ⟨hd, hc, h2, h3, h4⟩
theorem tldT_true (v : Int) : tld true v = if v ≤ 1000000000000 then (v, true) else (0, false) := by
 unfold tld
 simp
theorem tldT_false (v : Int) : tld false v = (0, false) := by
 unfold tld
 simp
theorem btw_in {n d c : Int} (h : (btw n d c).2.2 = true) : dOk n d = true ∧ tOk c = true ∧ (btw n d c).1 = leastT n d c ∧ (btw n d c).2.1 = mostT n d c ∧ mostT n d c ≤ 1000000000000 := by
 unfold btw at h ⊢
 by_cases cc : (dOk n d && tOk c) = true
 ·rw [cc] at h ⊢
  rw [Bool.and_eq_true] at cc
  rw [tldT_true, tldT_true] at h ⊢
  by_cases c1 : leastT n d c ≤ 1000000000000
  ·rw [if_pos c1] at h ⊢
   by_cases c2 : mostT n d c ≤ 1000000000000
   ·rw [if_pos c2] at h ⊢
    exact ⟨cc.1, cc.2, by simp, by simp, c2⟩
   ·rw [if_neg c2] at h
    simp at h
  ·rw [if_neg c1] at h
   simp at h
 ·rw [Bool.not_eq_true] at cc
  rw [cc] at h
  simp [tldT_false] at h
theorem may2_refl {n d : Int} {a : MK} (hd : dOk n d = true) (ha : tk a = true) : may2 n d a a = true := by
 rw [may2_iff hd ha ha, Int.sub_self, Int.sub_self, Int.zero_mul, Int.zero_mul, Int.zero_mul]
 omega
theorem may2_trans {n d : Int} {a b c : MK} (hd : dOk n d = true) (ha : tk a = true) (hb : tk b = true) (hc : tk c = true) (h1 : may2 n d a b = true) (h2 : may2 n d b c = true) : may2 n d a c = true := by
 rw [may2_iff hd ha hb] at h1
 rw [may2_iff hd hb hc] at h2
 rw [may2_iff hd ha hc]
 have e0 : c.f0 - a.f0 = (b.f0 - a.f0) + (c.f0 - b.f0) := by omega
 have e1 : c.f1 - a.f1 = (b.f1 - a.f1) + (c.f1 - b.f1) := by omega
 rw [e0, e1, Int.add_mul, Int.add_mul, Int.add_mul]
 omega
theorem oStep_ok {n d t c b w : Int} (h : (oStep n d t c b w).2.2.2.2 = true) : oOk n d t c = true ∧ ∃ x, oStep n d t c b w = (n, d, t + b, c + x, true) ∧ tk ⟨t + b, c + x⟩ = true ∧ may2 n d ⟨t, c⟩ ⟨t + b, c + x⟩ = true ∧ oOk n d (t + b) (c + x) = true := by
 unfold oStep at h ⊢
 by_cases c1 : oOk n d t c = true
 ·rw [if_pos c1] at h ⊢
  by_cases c2 : (clamp n d b w).2 = true ∧ t + b ≤ 1000000000000 ∧ c + (clamp n d b w).1 ≤ 1000000000000
  ·rw [if_pos c2]
   obtain ⟨h1, h2, h3, h4, h5, h6⟩ := clamp_bd c2.1
   have g := oOk_iff.1 c1
   have g2 := tOk_iff.1 h2
   refine ⟨c1, _, rfl, ?_, ?_, ?_⟩
   ·unfold tk
    rw [Bool.and_eq_true, tOk_iff, tOk_iff]
    simp only
    omega
   ·unfold may2
    simp only
    rw [show t + b - t = b by omega, show c + (clamp n d b w).1 - c = (clamp n d b w).1 by omega, w64 (by omega) (by omega), w64 (by omega) (by omega)]
    exact (mayC_C h1 h2).2 ⟨tOk_iff.2 (by omega), h3, h4⟩
   ·exact oOk_iff.2 ⟨h1, by omega, by omega⟩
  ·rw [if_neg c2] at h
   cases h
 ·rw [if_neg c1] at h
  cases h
theorem oRun_marks (n d : Int) (r : List SR) : ∀ t c acc i, oOk n d t c = true → acc ≠ [] → (∀ a ∈ acc, tk a = true ∧ may2 n d a ⟨t, c⟩ = true) → acc.Pairwise (fun a b => may2 n d a b = true) →
  (oRun n d t c acc i r).1 ≠ [] ∧ (∀ a ∈ (oRun n d t c acc i r).1, tk a = true) ∧ (oRun n d t c acc i r).1.Pairwise (fun a b => may2 n d a b = true) := by
 induction r with
 | nil =>
  intro t c acc i _ hne ha hp
  rw [oRun]
  exact ⟨hne, fun a h => (ha a h).1, hp⟩
 | cons s r ih =>
  intro t c acc i ho hne ha hp
  rw [oRun]
  by_cases c1 : (oStep n d t c s.f0 s.f1).2.2.2.2 = true
  ·rw [if_pos c1]
   obtain ⟨_, x, e, h1, h2, h3⟩ := oStep_ok c1
   rw [e]
   simp only
   have g := oOk_iff.1 ho
   have ht : tk ⟨t, c⟩ = true := by
    unfold tk
    rw [Bool.and_eq_true, tOk_iff, tOk_iff]
    exact ⟨g.2.1, g.2.2⟩
   have key : ∀ a ∈ acc, may2 n d a ⟨t + s.f0, c + x⟩ = true := fun a h => may2_trans g.1 (ha a h).1 ht h1 (ha a h).2 h2
   refine ih _ _ _ _ h3 (by simp) (fun a h => ?_) ?_
   ·rcases List.mem_append.1 h with h | h
    ·exact ⟨(ha a h).1, key a h⟩
    ·rw [List.mem_singleton] at h
     subst h
     exact ⟨h1, may2_refl g.1 h1⟩
   ·rw [List.pairwise_append]
    refine ⟨hp, List.pairwise_singleton _ _, fun a h b hb => ?_⟩
    rw [List.mem_singleton] at hb
    subst hb
    exact key a h
  ·rw [if_neg c1]
   exact ⟨hne, fun a h => (ha a h).1, hp⟩
theorem oscRun_marks (n d t c : Int) (l : List SR) (hne : (oscRun n d t c l).1 ≠ []) : mks (fun _ _ => true) n d (oscRun n d t c l).1 = true := by
 have hlen := oscRun_len n d t c l
 unfold oscRun at hne hlen ⊢
 by_cases cc : oOk n d t c = true ∧ l.length ≤ 200
 ·rw [if_pos cc] at hne hlen ⊢
  have g := oOk_iff.1 cc.1
  have ht : tk ⟨t, c⟩ = true := by
   unfold tk
   rw [Bool.and_eq_true, tOk_iff, tOk_iff]
   exact ⟨g.2.1, g.2.2⟩
  obtain ⟨_, h2, h3⟩ := oRun_marks n d l t c [⟨t, c⟩] 0 cc.1 (by simp) (fun a h => by
   rw [List.mem_singleton] at h
   subst h
   exact ⟨ht, may2_refl g.1 ht⟩) (List.pairwise_singleton _ _)
  generalize (oRun n d t c [⟨t, c⟩] 0 l).1 = m at *
  rw [mks_iff]
  have hpos : 0 < m.length := List.length_pos_iff.2 hne
  refine ⟨g.1, ⟨hpos, hlen⟩, fun i hi => ?_, fun i j hi hj _ => ?_⟩
  ·rw [rdM_nat m i hi]
   exact h2 _ (List.getElem_mem _)
  ·rw [rdM_nat m i hi, rdM_nat m j (by omega)]
   exact List.pairwise_iff_getElem.1 h3 j i (by omega) hi hj
 ·rw [if_neg cc] at hne
  exact absurd rfl hne
theorem l3DrawOsc_j0 {b : List Int} {i : Int} (h n d t c : Int) (hc : Cu b i) : ∃ n' d' t' c' i' h', Ev (fun k => spec_l3DrawOsc.j0 k b i h n d t c) (n', d', t', c', i', h') ∧ Cu b i' := by
 obtain ⟨o, i1, h1, e1, c1⟩ := l1Once_ok h 15 (by omega) hc
 by_cases co : o = true
 ·obtain ⟨x, i2, h2, e2, _, _, c2⟩ := l2DrawCount_ok h1 c1
  refine ⟨n, d, t, x, i2, h2, Ev.step (fun k => by simp only [spec_l3DrawOsc.j0]; rfl) ?_, c2⟩
  simp only [e1, e2, co, if_true, Option.bind_some]
  exact Ev.now _
 ·refine ⟨n, d, t, c, i1, h1, Ev.step (fun k => by simp only [spec_l3DrawOsc.j0]; rfl) ?_, c1⟩
  simp only [e1, co, if_false, Option.bind_some]
  exact Ev.now _
theorem l3DrawOsc_ev {b : List Int} {i : Int} (h : Int) (hc : Cu b i) : ∃ n' d' t' c' i' h', Ev (fun k => spec_l3DrawOsc.f k b i h) (n', d', t', c', i', h') ∧ Cu b i' := by
 unfold spec_l3DrawOsc.f
 obtain ⟨n, d, i1, h1, e1, _, _, c1⟩ := l2DrawDrift_ok h hc
 obtain ⟨x, i2, h2, e2, _, _, _, _, c2⟩ := l1Below_ok h1 300 (by omega) c1
 obtain ⟨y, i3, h3, e3, _, _, _, _, c3⟩ := l1Below_ok h2 300 (by omega) c2
 obtain ⟨o, i4, h4, e4, c4⟩ := l1Once_ok h3 15 (by omega) c3
 simp only [e1, e2, e3, e4, Option.bind_some]
 by_cases co : o = true
 ·simp only [co, if_true]
  obtain ⟨z, i5, h5, e5, _, _, c5⟩ := l2DrawCount_ok h4 c4
  simp only [e5, Option.bind_some]
  exact l3DrawOsc_j0 h5 n d z y c5
 ·simp only [co, if_false]
  exact l3DrawOsc_j0 h4 n d x y c4
theorem DrawOscRun_ev (l : List Int) (hl : l.length ≤ 1048576) : ∃ r, Ev (fun k => spec_DrawOscRun.f k l) r := by
 unfold spec_DrawOscRun.f
 obtain ⟨h, hn⟩ := l1New_ev l hl
 obtain ⟨n, d, t, c, i1, h1, e1, c1⟩ := l3DrawOsc_ev h (cu0 hl)
 obtain ⟨s, es, hs, hs2, hs3⟩ := l1Size_ok l hl 20
 obtain ⟨x, i2, h2, e2, hx0, hx1, hx2, _, c2⟩ := l1Below_ok h1 s (by omega) c1
 obtain ⟨o, i3, h3, e3, c3⟩ := l1Once_ok h2 25 (by omega) c2
 by_cases co : o = true
 ·obtain ⟨y, i4, h4, e4, hy0, hy1, _, _, c4⟩ := l1Below_ok h3 2 (by omega) c3
  have := hy1 (by omega)
  obtain ⟨m, i5, h5, e5, _, c5⟩ := l3DrawStrides_ev h4 (wrap64 (200 + y)) (by rw [w64 (by omega) (by omega)]; omega) c4
  refine ⟨(n, d, t, c, m), Ev.bind hn (Ev.bind e1 ?_)⟩
  ·simp only [es, e2, e3, co, if_true, e4, Option.bind_some]
   refine Ev.step (fun k => by simp only [spec_DrawOscRun.j0]; rfl) ?_
   refine Ev.bind e5 ?_
   exact Ev.now _
 ·obtain ⟨m, i5, h5, e5, _, c5⟩ := l3DrawStrides_ev h3 x (by omega) c3
  refine ⟨(n, d, t, c, m), Ev.bind hn (Ev.bind e1 ?_)⟩
  ·simp only [es, e2, e3, co, if_false, Option.bind_some]
   refine Ev.step (fun k => by simp only [spec_DrawOscRun.j0]; rfl) ?_
   refine Ev.bind e5 ?_
   exact Ev.now _
theorem at_pos (l : List Int) (hu : ∀ x ∈ l, (Lit.int .u8 x).wf = true) (hl : l.length ≤ 1048576) (i : Int) (h0 : 0 ≤ i) (h1 : i ≤ 1000) : ∃ c, laws_at.f l i = some c ∧ 0 ≤ c ∧ c ≤ 255 := by
 unfold laws_at.f
 by_cases h : i < (l.length : Int)
 ·rw [if_pos h, if_pos h0]
  have hx : 0 ≤ rd l i ∧ rd l i ≤ 255 := by
   unfold rd
   rw [List.getD_eq_getElem?_getD, List.getElem?_eq_getElem (by omega)]
   have := hu _ (List.getElem_mem (by omega : i.toNat < l.length))
   simp [Lit.wf, IntKind.min, IntKind.max, IntKind.signed, IntKind.bits] at this
   exact this
  refine ⟨_, rfl, ?_⟩
  rw [w64 (by omega) (by omega)]
  exact hx
 ·rw [if_neg h]
  refine ⟨_, rfl, ?_⟩
  rw [w64 (x := i * 7) (by omega) (by omega), w64 (by omega) (by omega), Int.tmod_eq_emod_of_nonneg (by omega)]
  omega
theorem marks_j1 (l : List Int) (hu : ∀ x ∈ l, (Lit.int .u8 x).wf = true) (hl : l.length ≤ 1048576) (m : List MK) (n d t c : Int) (hm : mks (fun _ _ => true) n d m = true) : Ev (fun k => laws_FnMarks.j1 k l m m false n d t c) true := by
 have g := (mks_iff _ n d m).1 hm
 obtain ⟨p, hp, hp0, hp1⟩ := at_pos l hu hl 1 (by omega) (by omega)
 obtain ⟨q, hq, hq0, hq1⟩ := at_pos l hu hl 2 (by omega) (by omega)
 refine Ev.step (fun k => by simp only [laws_FnMarks.j1]; rfl) ?_
 have hlen : 1 ≤ m.length ∧ m.length ≤ 201 := g.2.1
 simp only [Bool.false_eq_true, if_false, hp, hq, Option.bind_some, show ¬ ((m.length : Int) = 0) by omega]
 have e1 : Int.tmod p (m.length : Int) = ((p % m.length : Int)) := Int.tmod_eq_emod_of_nonneg hp0
 have a0 := Int.emod_nonneg p (show (m.length : Int) ≠ 0 by omega)
 have a1 := Int.emod_lt_of_pos p (show 0 < (m.length : Int) by omega)
 rw [e1]
 obtain ⟨i, hi⟩ : ∃ i : Nat, p % (m.length : Int) = (i : Int) := ⟨(p % (m.length : Int)).toNat, by omega⟩
 rw [hi] at a0 a1 ⊢
 rw [w64 (x := (m.length : Int) - (i : Int)) (by omega) (by omega)]
 have e2 : Int.tmod q ((m.length : Int) - (i : Int)) = q % ((m.length : Int) - (i : Int)) := Int.tmod_eq_emod_of_nonneg hq0
 have b0 := Int.emod_nonneg q (show (m.length : Int) - (i : Int) ≠ 0 by omega)
 have b1 := Int.emod_lt_of_pos q (show 0 < (m.length : Int) - (i : Int) by omega)
 rw [e2]
 obtain ⟨j, hj⟩ : ∃ j : Nat, wrap64 ((i : Int) + q % ((m.length : Int) - (i : Int))) = (j : Int) := ⟨((i : Int) + q % ((m.length : Int) - (i : Int))).toNat, by rw [w64 (by omega) (by omega)]; omega⟩
 have hj2 := hj
 rw [w64 (by omega) (by omega)] at hj2
 rw [hj]
 simp only [show ¬ ((m.length : Int) - (i : Int) = 0) by omega, if_false]
 refine Ev.bind (iElapsedAt_ev n d m (i : Int) (j : Int)) ?_
 refine Ev.bind (sElapsedAt_ev n d m (i : Int) (j : Int)) ?_
 simp only [beq_self_eq_true, if_true, show (0 : Int) ≤ (j : Int) by omega, show (j : Int) < (m.length : Int) by omega, show (0 : Int) ≤ (i : Int) by omega, show (i : Int) < (m.length : Int) by omega, iHolds_eq, Option.bind_some]
 have hel : elap n d m (i : Int) (j : Int) = btw n d ((rd_T38 m (j : Int)).f1 - (rd_T38 m (i : Int)).f1) := by
  have t1 := g.2.2.1 i (by omega)
  have t2 := g.2.2.1 j (by omega)
  unfold tk at t1 t2
  rw [Bool.and_eq_true, tOk_iff, tOk_iff] at t1 t2
  unfold elap
  rw [mks_adj, if_pos hm, if_pos (by omega), w64 (by omega) (by omega)]
 rw [hel]
 have t1 := g.2.2.1 i (by omega)
 have t2 := g.2.2.1 j (by omega)
 have hmay : may2 n d (rd_T38 m (i : Int)) (rd_T38 m (j : Int)) = true := by
  by_cases cij : i = j
  ·rw [cij]
   exact may2_refl g.1 t2
  ·exact g.2.2.2 j i (by omega) (by omega) rfl
 generalize rd_T38 m (i : Int) = x at *
 generalize rd_T38 m (j : Int) = y at *
 unfold tk at t1 t2
 rw [Bool.and_eq_true, tOk_iff, tOk_iff] at t1 t2
 unfold may2 at hmay
 rw [w64 (x := y.f0 - x.f0) (by omega) (by omega)] at hmay ⊢
 rw [w64 (x := y.f1 - x.f1) (by omega) (by omega)] at hmay
 by_cases cb : (btw n d (y.f1 - x.f1)).2.2 = true
 ·simp only [cb, if_true]
  obtain ⟨h1, h2, e3, e4, h5⟩ := btw_in cb
  have k1 := (mayC_T h1 h2).1 hmay
  have k2 := leastT_bd h1 h2
  have k3 := mostT_bd h1 h2
  have k4 := tOk_iff.1 h2
  rw [e3, e4]
  have k5 : (ok2 (leastT n d (y.f1 - x.f1)) (mostT n d (y.f1 - x.f1)) && decide (leastT n d (y.f1 - x.f1) ≤ y.f0 - x.f0 ∧ y.f0 - x.f0 ≤ mostT n d (y.f1 - x.f1))) = true := by
   rw [Bool.and_eq_true, ok2_iff, decide_eq_true_iff]
   omega
  rw [k5]
  exact Ev.now true
 ·simp only [cb, if_false]
  exact Ev.now true
theorem FnMarks (l0 : List Int) (h : ∀ x ∈ l0, (Lit.int .u8 x).wf = true) (_hm : l0.length ≤ 9223372036854775807) : ∃ k, laws_FnMarks.f k l0 = some true := by
 apply Ev.rounds
 unfold laws_FnMarks.f
 simp only [big_eq, Option.bind_some]
 by_cases c : (l0.length : Int) > 1048576
 ·simp only [c, decide_true, if_true]
  exact Ev.now true
 ·simp only [c, decide_false, Bool.false_eq_true, if_false]
  obtain ⟨⟨n, d, t, u, r⟩, hr⟩ := DrawOscRun_ev l0 (by omega)
  refine Ev.bind hr ?_
  refine Ev.bind (iOscRun_ev n d t u r) ?_
  refine Ev.bind (sOscRun_ev n d t u r) ?_
  simp only [if_true, bne_self_eq_false]
  refine Ev.step (fun k => by simp only [laws_FnMarks.j0]; rfl) ?_
  have hmarks := oscRun_marks n d t u r
  generalize (oscRun n d t u r).1 = m at *
  simp only [Bool.false_eq_true, if_false]
  by_cases cm : (m.length : Int) = 0
  ·simp only [cm, if_true]
   refine Ev.bind (iMarksOk_ev m n d) ?_
   have e : mks pMarksOk n d m = false := by
    rw [Bool.eq_false_iff]
    intro hh
    have := ((mks_iff _ n d m).1 hh).2.1
    omega
   rw [e]
   exact Ev.now true
  ·have hmk := hmarks (fun e => cm (by rw [e]; rfl))
   simp only [cm, if_false]
   refine Ev.bind (iMarksOk_ev m n d) ?_
   rw [show pMarksOk = (fun j i => decide (j + 1 = i)) from rfl, mks_adj, hmk]
   simp only [if_true]
   refine Ev.bind (iMarksAll_ev m n d) ?_
   rw [show pMarksAll = (fun _ _ => true) from rfl, hmk]
   exact marks_j1 l0 h (by omega) m n d t u hmk

end Go.Proofs.Ytlikojcfjamgpaa.Pure
