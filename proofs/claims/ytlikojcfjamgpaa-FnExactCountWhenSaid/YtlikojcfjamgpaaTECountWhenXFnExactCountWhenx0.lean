-- Written by a program of this claim's session (wip/xprint.py), out of the translation.
import Derived.Test.YtlikojcfjamgpaaProg
import Derived.Below
import Derived.Deep.Draws
import Derived.Deep.AppendLies
import Derived.Maps.AppendAt
import Derived.OwnWalk
import Derived.Laws.BytesArg
import Derived.Laws.MakeOwn
import Derived.Laws.OwnMore
import Derived.Deep.OwnRows
import Derived.Tactics
import Derived.Lib.ConvBytes
import Derived.Laws.Slices
import Derived.WalkKit
import Derived.KernelRfl
import Derived.RowKit3
import Derived.Deep.LoopGhost
import Derived.Deep.QuietTactic
import Derived.BigQuiet
import Derived.WideLaws
import Derived.Deep.DeepCutAuto
import Derived.Deep.CutBlock
import Derived.Deep.RegionHeld3
import Derived.Laws.Rows
import Derived.Lib.AppendStr
import Derived.ArgAppend
import Derived.Laws.IdiomCopy
import Derived.OrdersHeld
import Derived.Laws.BitsLemmas
import Derived.RowKit
import Derived.Test.YtlikojcfjamgpaaTECountWhenFnVal
import Derived.Test.YtlikojcfjamgpaaTECountWhenWWords
import Derived.Test.YtlikojcfjamgpaaTECountWhenWLast
import Derived.Test.YtlikojcfjamgpaaTECountWhenWTab
import Derived.Test.YtlikojcfjamgpaaTECountWhenWFour
import Derived.Test.YtlikojcfjamgpaaTECountWhenWQPut
import Derived.Test.YtlikojcfjamgpaaTECountWhenWApart
import Derived.Test.YtlikojcfjamgpaaTECountWhenWArr
import Derived.Test.YtlikojcfjamgpaaTECountWhenWZeros
import Derived.Test.YtlikojcfjamgpaaTECountWhenWFoot
import Derived.Test.YtlikojcfjamgpaaTECountWhenWKept
import Derived.Test.YtlikojcfjamgpaaTECountWhenWShare
import Derived.Test.YtlikojcfjamgpaaTECountWhenWN
import Derived.Test.YtlikojcfjamgpaaTECountWhenWFootNe
import Derived.Test.YtlikojcfjamgpaaTECountWhenWAt
import Derived.Test.YtlikojcfjamgpaaTECountWhenWEqStruct
import Derived.Test.YtlikojcfjamgpaaTECountWhenWRepsOne
import Derived.Test.YtlikojcfjamgpaaTECountWhenWInv
import Derived.Test.YtlikojcfjamgpaaTECountWhenWInvWords
import Derived.Test.YtlikojcfjamgpaaTECountWhenWGuard
import Derived.Test.YtlikojcfjamgpaaTECountWhenWNEv
import Derived.Test.YtlikojcfjamgpaaTECountWhenWMore
namespace Go.Proofs.Ytlikojcfjamgpaa.XFnExactCountWhen
open Go.RowKit Go.Proofs.YtlikojcfjamgpaaW.PrintWords Go.Proofs.YtlikojcfjamgpaaW.PrintLast Go.Proofs.YtlikojcfjamgpaaW.PrintMore
open Go.Proofs.YtlikojcfjamgpaaW.PrintWords renaming blk_drewN → bA, blk_drew → bB, blk_alloc → bC, pw_below_drewN → bD, below_alloc → bE, below_drew1 → bF, Aside0.mk → zM, below_step → bG, blk_put → bH
open List renaming setIfInBounds_toArray → zS, set_cons_zero → z0, set_cons_succ → z1
attribute [local go_sem] max2_int min2_int max_two min_two max_three min_three max_four min_four
set_option linter.unusedVariables false
set_option linter.unusedSimpArgs false
set_option maxHeartbeats 8000000
set_option maxRecDepth 100000



def errW:Option Int → Value
 | none=>.nilIface
 | some c=>.iface 0 (.int .i64 c)
theorem errW_none:errW none = .nilIface:=rfl
theorem errW_some (c:Int):errW (some c) = .iface 0 (.int .i64 c):=rfl

theorem info38:(Try.prog.info? 38).map (fun i=>(i.zero,i.size,i.bytes)) = some (some (.agg #[(.int .i64 0),(.int .i64 0)]),2,16):=by kernel_rfl
-- the values' own types
/-! #### struct type 69 -/
structure S69 where
 f0:Int
 f1:Int
def z69:S69:=⟨(0:Int),(0:Int)⟩
def k69:Kd S69:=Kd.iso (Kd.pair (Kd.int .i64) (Kd.int .i64)) (fun x:S69=>(x.f0,x.f1))
theorem k69_open {w:World} {x:S69} {cs:List Value} (h:k69.K w x cs):cs = [.int .i64 x.f0,.int .i64 x.f1]:=by
 obtain ⟨_,_,rfl,rfl,rfl⟩:=h
 exact rfl
theorem k69_openM {w:World} {base:Nat} {ok:Nat → Prop} {x:S69} {cs:List Value} (h:k69.M w base ok x cs):cs = [.int .i64 x.f0,.int .i64 x.f1]:=by
 obtain ⟨_,_,rfl,rfl,rfl⟩:=h
 exact rfl
theorem k69_mk (w:World) (x:S69) :k69.K w x [.int .i64 x.f0,.int .i64 x.f1]:=⟨[.int .i64 x.f0],[.int .i64 x.f1],rfl,rfl,rfl⟩
theorem k69_mkM (w:World) (base:Nat) (ok:Nat → Prop) (x:S69) :k69.M w base ok x [.int .i64 x.f0,.int .i64 x.f1]:=⟨[.int .i64 x.f0],[.int .i64 x.f1],rfl,rfl,rfl⟩
def rd_T69 (xs:List S69) (i:Int):S69:=xs.getD i.toNat z69
theorem at_T69 {w:World} {A:Option Addr} {n:Nat} {xs:List S69} (h:Kd.C k69 w A n xs) (i:Int) (h0:0 ≤ i) (h1:i < n):∃ ad ,A = some ad ∧ w.cell? (ad.add (i.toNat * 2)) = some (.int .i64 (rd_T69 xs i).f0) ∧ w.cell? ⟨(ad.add (i.toNat * 2)).block,(ad.add (i.toNat * 2)).off + 1,none⟩ = some (.int .i64 (rd_T69 xs i).f1):=by
 obtain ⟨ad,c,e,_,hK,hc0⟩:=Kd.C_get h z69 i h0 h1
 have hc:∀ j u,c[j]? = some u → w.cell? (ad.add (i.toNat * 2 + j)) = some u:=hc0
 obtain rfl:=k69_open hK
 exact ⟨ad,e,hc 0 _ rfl,by rw [← add_field _ _ 1 (by omega)];exact hc 1 _ rfl⟩

/-! #### struct type 38 -/
structure S38 where
 f0:Int
 f1:Int
def z38:S38:=⟨(0:Int),(0:Int)⟩
def k38:Kd S38:=Kd.iso (Kd.pair (Kd.int .i64) (Kd.int .i64)) (fun x:S38=>(x.f0,x.f1))
theorem k38_open {w:World} {x:S38} {cs:List Value} (h:k38.K w x cs):cs = [.int .i64 x.f0,.int .i64 x.f1]:=by
 obtain ⟨_,_,rfl,rfl,rfl⟩:=h
 exact rfl
theorem k38_openM {w:World} {base:Nat} {ok:Nat → Prop} {x:S38} {cs:List Value} (h:k38.M w base ok x cs):cs = [.int .i64 x.f0,.int .i64 x.f1]:=by
 obtain ⟨_,_,rfl,rfl,rfl⟩:=h
 exact rfl
theorem k38_mk (w:World) (x:S38) :k38.K w x [.int .i64 x.f0,.int .i64 x.f1]:=⟨[.int .i64 x.f0],[.int .i64 x.f1],rfl,rfl,rfl⟩
theorem k38_mkM (w:World) (base:Nat) (ok:Nat → Prop) (x:S38) :k38.M w base ok x [.int .i64 x.f0,.int .i64 x.f1]:=⟨[.int .i64 x.f0],[.int .i64 x.f1],rfl,rfl,rfl⟩
def rd_T38 (xs:List S38) (i:Int):S38:=xs.getD i.toNat z38
theorem at_T38 {w:World} {A:Option Addr} {n:Nat} {xs:List S38} (h:Kd.C k38 w A n xs) (i:Int) (h0:0 ≤ i) (h1:i < n):∃ ad ,A = some ad ∧ w.cell? (ad.add (i.toNat * 2)) = some (.int .i64 (rd_T38 xs i).f0) ∧ w.cell? ⟨(ad.add (i.toNat * 2)).block,(ad.add (i.toNat * 2)).off + 1,none⟩ = some (.int .i64 (rd_T38 xs i).f1):=by
 obtain ⟨ad,c,e,_,hK,hc0⟩:=Kd.C_get h z38 i h0 h1
 have hc:∀ j u,c[j]? = some u → w.cell? (ad.add (i.toNat * 2 + j)) = some u:=hc0
 obtain rfl:=k38_open hK
 exact ⟨ad,e,hc 0 _ rfl,by rw [← add_field _ _ 1 (by omega)];exact hc 1 _ rfl⟩

end Go.Proofs.Ytlikojcfjamgpaa.XFnExactCountWhen
