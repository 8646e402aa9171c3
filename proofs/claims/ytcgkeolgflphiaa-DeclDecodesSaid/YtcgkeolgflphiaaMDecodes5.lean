/-
  Merged: DeR, DeW, FinA, DeP, LawDD, LawDU, WSized.
-/
import Derived.SizedLaws
import Derived.ChangeSlices
import Derived.Test.YtcgkeolgflphiaaMDecodes4
namespace Go.Proofs.Ytcgkeolgflphiaa
open Go.RowKit Go.Proofs.YtcgkeolgflphiaaW.PrintWords Go.RegionInvYtcgkeolgflphiaa Go.RegionEYtcgkeolgflphiaa
set_option linter.unusedVariables false

def TqOk (t:Tm):Prop:=EqOk t∧okT t
structure DqOk (d:Dc):Prop where
 ty:TqOk d.ty
 val:TqOk d.val
 cs:∀ c∈d.cs,TqOk c.ty

def deq1_ops:List Oper:=[
 { dst:=some 7,op:=Go.Op.fieldAddr 30 (Go.Operand.tmp 2) 0,type:=0,pos:= "ref.go:542",after:=#[],guard:=none },
 { dst:=some 8,op:=Go.Op.load 3 (Go.Operand.tmp 7),type:=3,pos:= "ref.go:542",after:=#[{ on:=0,ground:=Go.Ground.data }],guard:=none },
 { dst:=some 9,op:=Go.Op.fieldAddr 30 (Go.Operand.tmp 3) 0,type:=0,pos:= "ref.go:542",after:=#[],guard:=none },
 { dst:=some 10,op:=Go.Op.load 3 (Go.Operand.tmp 9),type:=3,pos:= "ref.go:542",after:=#[{ on:=2,ground:=Go.Ground.data }],guard:=none },
 { dst:=some 11,op:=Go.Op.binOp Go.BinOp.neq 3 (Go.Operand.tmp 8) (Go.Operand.tmp 10) 3,type:=4,pos:= "ref.go:542",after:=#[{ on:=1,ground:=Go.Ground.data },{ on:=3,ground:=Go.Ground.data }],guard:=none },
 { dst:=some 12,op:=Go.Op.move (Go.Operand.tmp 11),type:=4,pos:= "ref.go:542",after:=#[{ on:=4,ground:=Go.Ground.data }],guard:=none },
 { dst:=some 13,op:=Go.Op.fieldAddr 30 (Go.Operand.tmp 2) 1,type:=0,pos:= "ref.go:542",after:=#[{ on:=5,ground:=Go.Ground.guard }],guard:=some (5,false) },
 { dst:=some 14,op:=Go.Op.load 9 (Go.Operand.tmp 13),type:=9,pos:= "ref.go:542",after:=#[{ on:=6,ground:=Go.Ground.data },{ on:=5,ground:=Go.Ground.guard }],guard:=some (5,false) },
 { dst:=some 15,op:=Go.Op.fieldAddr 30 (Go.Operand.tmp 3) 1,type:=0,pos:= "ref.go:542",after:=#[{ on:=5,ground:=Go.Ground.guard }],guard:=some (5,false) },
 { dst:=some 16,op:=Go.Op.load 9 (Go.Operand.tmp 15),type:=9,pos:= "ref.go:542",after:=#[{ on:=8,ground:=Go.Ground.data },{ on:=5,ground:=Go.Ground.guard }],guard:=some (5,false) },
 { dst:=some 17,op:=Go.Op.binOp Go.BinOp.neq 9 (Go.Operand.tmp 14) (Go.Operand.tmp 16) 9,type:=4,pos:= "ref.go:542",after:=#[{ on:=7,ground:=Go.Ground.data },{ on:=9,ground:=Go.Ground.data },{ on:=5,ground:=Go.Ground.guard }],guard:=some (5,false) },
 { dst:=some 18,op:=Go.Op.pick (Go.Operand.tmp 12) (Go.Operand.const (Go.Value.bool true)) (Go.Operand.tmp 17),type:=4,pos:= "ref.go:542",after:=#[{ on:=5,ground:=Go.Ground.data },{ on:=10,ground:=Go.Ground.data }],guard:=none },
 { dst:=some 19,op:=Go.Op.move (Go.Operand.tmp 18),type:=4,pos:= "ref.go:542",after:=#[{ on:=11,ground:=Go.Ground.data },{ on:=5,ground:=Go.Ground.chain }],guard:=none },
 { dst:=some 20,op:=Go.Op.fieldAddr 30 (Go.Operand.tmp 2) 2,type:=0,pos:= "ref.go:542",after:=#[{ on:=12,ground:=Go.Ground.guard }],guard:=some (12,false) },
 { dst:=some 21,op:=Go.Op.load 3 (Go.Operand.tmp 20),type:=3,pos:= "ref.go:542",after:=#[{ on:=13,ground:=Go.Ground.data },{ on:=12,ground:=Go.Ground.guard }],guard:=some (12,false) },
 { dst:=some 22,op:=Go.Op.fieldAddr 30 (Go.Operand.tmp 3) 2,type:=0,pos:= "ref.go:542",after:=#[{ on:=12,ground:=Go.Ground.guard }],guard:=some (12,false) },
 { dst:=some 23,op:=Go.Op.load 3 (Go.Operand.tmp 22),type:=3,pos:= "ref.go:542",after:=#[{ on:=15,ground:=Go.Ground.data },{ on:=12,ground:=Go.Ground.guard }],guard:=some (12,false) },
 { dst:=some 24,op:=Go.Op.binOp Go.BinOp.neq 3 (Go.Operand.tmp 21) (Go.Operand.tmp 23) 3,type:=4,pos:= "ref.go:542",after:=#[{ on:=14,ground:=Go.Ground.data },{ on:=16,ground:=Go.Ground.data },{ on:=12,ground:=Go.Ground.guard }],guard:=some (12,false) },
 { dst:=some 25,op:=Go.Op.pick (Go.Operand.tmp 19) (Go.Operand.const (Go.Value.bool true)) (Go.Operand.tmp 24),type:=4,pos:= "ref.go:542",after:=#[{ on:=12,ground:=Go.Ground.data },{ on:=17,ground:=Go.Ground.data }],guard:=none },
 { dst:=some 26,op:=Go.Op.move (Go.Operand.tmp 25),type:=4,pos:= "ref.go:542",after:=#[{ on:=18,ground:=Go.Ground.data },{ on:=12,ground:=Go.Ground.chain }],guard:=none },
 { dst:=some 27,op:=Go.Op.fieldAddr 30 (Go.Operand.tmp 2) 5,type:=0,pos:= "ref.go:542",after:=#[{ on:=19,ground:=Go.Ground.guard }],guard:=some (19,false) },
 { dst:=some 28,op:=Go.Op.load 3 (Go.Operand.tmp 27),type:=3,pos:= "ref.go:542",after:=#[{ on:=20,ground:=Go.Ground.data },{ on:=19,ground:=Go.Ground.guard }],guard:=some (19,false) },
 { dst:=some 29,op:=Go.Op.fieldAddr 30 (Go.Operand.tmp 3) 5,type:=0,pos:= "ref.go:542",after:=#[{ on:=19,ground:=Go.Ground.guard }],guard:=some (19,false) },
 { dst:=some 30,op:=Go.Op.load 3 (Go.Operand.tmp 29),type:=3,pos:= "ref.go:542",after:=#[{ on:=22,ground:=Go.Ground.data },{ on:=19,ground:=Go.Ground.guard }],guard:=some (19,false) },
 { dst:=some 31,op:=Go.Op.binOp Go.BinOp.neq 3 (Go.Operand.tmp 28) (Go.Operand.tmp 30) 3,type:=4,pos:= "ref.go:542",after:=#[{ on:=21,ground:=Go.Ground.data },{ on:=23,ground:=Go.Ground.data },{ on:=19,ground:=Go.Ground.guard }],guard:=some (19,false) },
 { dst:=some 32,op:=Go.Op.pick (Go.Operand.tmp 26) (Go.Operand.const (Go.Value.bool true)) (Go.Operand.tmp 31),type:=4,pos:= "ref.go:542",after:=#[{ on:=19,ground:=Go.Ground.data },{ on:=24,ground:=Go.Ground.data }],guard:=none },
 { dst:=some 33,op:=Go.Op.move (Go.Operand.tmp 32),type:=4,pos:= "ref.go:542",after:=#[{ on:=25,ground:=Go.Ground.data },{ on:=19,ground:=Go.Ground.chain }],guard:=none },
 { dst:=some 34,op:=Go.Op.fieldAddr 30 (Go.Operand.tmp 2) 3,type:=0,pos:= "ref.go:542",after:=#[{ on:=26,ground:=Go.Ground.guard }],guard:=some (26,false) },
 { dst:=some 35,op:=Go.Op.load 27 (Go.Operand.tmp 34),type:=27,pos:= "ref.go:542",after:=#[{ on:=27,ground:=Go.Ground.data },{ on:=26,ground:=Go.Ground.guard }],guard:=some (26,false) },
 { dst:=some 36,op:=Go.Op.fieldAddr 30 (Go.Operand.tmp 3) 3,type:=0,pos:= "ref.go:542",after:=#[{ on:=26,ground:=Go.Ground.guard }],guard:=some (26,false) },
 { dst:=some 37,op:=Go.Op.load 27 (Go.Operand.tmp 36),type:=27,pos:= "ref.go:542",after:=#[{ on:=29,ground:=Go.Ground.data },{ on:=26,ground:=Go.Ground.guard }],guard:=some (26,false) },
 { dst:=some 38,op:=Go.Op.call { callee:=Go.Callee.value (Go.Operand.func 46),args:=#[Go.Operand.tmp 35,Go.Operand.tmp 37],argTypes:=#[27,27] },type:=4,pos:= "ref.go:542",after:=#[{ on:=28,ground:=Go.Ground.data },{ on:=30,ground:=Go.Ground.data },{ on:=26,ground:=Go.Ground.chain },{ on:=26,ground:=Go.Ground.guard }],guard:=some (26,false) },
 { dst:=some 39,op:=Go.Op.unOp Go.UnOp.not 4 (Go.Operand.tmp 38),type:=4,pos:= "ref.go:542",after:=#[{ on:=31,ground:=Go.Ground.data },{ on:=26,ground:=Go.Ground.guard }],guard:=some (26,false) },
 { dst:=some 40,op:=Go.Op.pick (Go.Operand.tmp 33) (Go.Operand.const (Go.Value.bool true)) (Go.Operand.tmp 39),type:=4,pos:= "ref.go:542",after:=#[{ on:=26,ground:=Go.Ground.data },{ on:=32,ground:=Go.Ground.data }],guard:=none },
 { dst:=some 41,op:=Go.Op.move (Go.Operand.tmp 40),type:=4,pos:= "ref.go:542",after:=#[{ on:=33,ground:=Go.Ground.data },{ on:=31,ground:=Go.Ground.chain }],guard:=none },
 { dst:=some 42,op:=Go.Op.fieldAddr 30 (Go.Operand.tmp 2) 4,type:=0,pos:= "ref.go:542",after:=#[{ on:=34,ground:=Go.Ground.guard }],guard:=some (34,false) },
 { dst:=some 43,op:=Go.Op.load 27 (Go.Operand.tmp 42),type:=27,pos:= "ref.go:542",after:=#[{ on:=35,ground:=Go.Ground.data },{ on:=34,ground:=Go.Ground.guard }],guard:=some (34,false) },
 { dst:=some 44,op:=Go.Op.fieldAddr 30 (Go.Operand.tmp 3) 4,type:=0,pos:= "ref.go:542",after:=#[{ on:=34,ground:=Go.Ground.guard }],guard:=some (34,false) },
 { dst:=some 45,op:=Go.Op.load 27 (Go.Operand.tmp 44),type:=27,pos:= "ref.go:542",after:=#[{ on:=37,ground:=Go.Ground.data },{ on:=34,ground:=Go.Ground.guard }],guard:=some (34,false) },
 { dst:=some 46,op:=Go.Op.call { callee:=Go.Callee.value (Go.Operand.func 46),args:=#[Go.Operand.tmp 43,Go.Operand.tmp 45],argTypes:=#[27,27] },type:=4,pos:= "ref.go:542",after:=#[{ on:=36,ground:=Go.Ground.data },{ on:=38,ground:=Go.Ground.data },{ on:=34,ground:=Go.Ground.chain },{ on:=34,ground:=Go.Ground.guard }],guard:=some (34,false) },
 { dst:=some 47,op:=Go.Op.unOp Go.UnOp.not 4 (Go.Operand.tmp 46),type:=4,pos:= "ref.go:542",after:=#[{ on:=39,ground:=Go.Ground.data },{ on:=34,ground:=Go.Ground.guard }],guard:=some (34,false) },
 { dst:=some 48,op:=Go.Op.pick (Go.Operand.tmp 41) (Go.Operand.const (Go.Value.bool true)) (Go.Operand.tmp 47),type:=4,pos:= "ref.go:542",after:=#[{ on:=34,ground:=Go.Ground.data },{ on:=40,ground:=Go.Ground.data }],guard:=none },
 { dst:=some 49,op:=Go.Op.move (Go.Operand.tmp 48),type:=4,pos:= "ref.go:542",after:=#[{ on:=41,ground:=Go.Ground.data },{ on:=39,ground:=Go.Ground.chain }],guard:=none },
 { dst:=some 50,op:=Go.Op.fieldAddr 30 (Go.Operand.tmp 2) 6,type:=0,pos:= "ref.go:542",after:=#[{ on:=42,ground:=Go.Ground.guard }],guard:=some (42,false) },
 { dst:=some 51,op:=Go.Op.load 28 (Go.Operand.tmp 50),type:=28,pos:= "ref.go:542",after:=#[{ on:=43,ground:=Go.Ground.data },{ on:=42,ground:=Go.Ground.guard }],guard:=some (42,false) },
 { dst:=some 52,op:=Go.Op.call { callee:=Go.Callee.builtin Go.Builtin.len,args:=#[Go.Operand.tmp 51],argTypes:=#[28] },type:=3,pos:= "ref.go:542",after:=#[{ on:=44,ground:=Go.Ground.data },{ on:=42,ground:=Go.Ground.guard }],guard:=some (42,false) },
 { dst:=some 53,op:=Go.Op.fieldAddr 30 (Go.Operand.tmp 3) 6,type:=0,pos:= "ref.go:542",after:=#[{ on:=42,ground:=Go.Ground.guard }],guard:=some (42,false) },
 { dst:=some 54,op:=Go.Op.load 28 (Go.Operand.tmp 53),type:=28,pos:= "ref.go:542",after:=#[{ on:=46,ground:=Go.Ground.data },{ on:=42,ground:=Go.Ground.guard }],guard:=some (42,false) },
 { dst:=some 55,op:=Go.Op.call { callee:=Go.Callee.builtin Go.Builtin.len,args:=#[Go.Operand.tmp 54],argTypes:=#[28] },type:=3,pos:= "ref.go:542",after:=#[{ on:=47,ground:=Go.Ground.data },{ on:=42,ground:=Go.Ground.guard }],guard:=some (42,false) },
 { dst:=some 56,op:=Go.Op.binOp Go.BinOp.neq 3 (Go.Operand.tmp 52) (Go.Operand.tmp 55) 3,type:=4,pos:= "ref.go:542",after:=#[{ on:=45,ground:=Go.Ground.data },{ on:=48,ground:=Go.Ground.data },{ on:=42,ground:=Go.Ground.guard }],guard:=some (42,false) },
 { dst:=some 57,op:=Go.Op.pick (Go.Operand.tmp 49) (Go.Operand.const (Go.Value.bool true)) (Go.Operand.tmp 56),type:=4,pos:= "ref.go:542",after:=#[{ on:=42,ground:=Go.Ground.data },{ on:=49,ground:=Go.Ground.data }],guard:=none }]
def deq1_F (w0:World) (g g':Nat) (d:Dc) (P P2:DPl):Nat→(Nat→Value)→Value→World→(Nat→Prop)→Prop:=fun rix=>match rix with
 | 0=>fun _ v _ _=>v=.pointer (some ⟨g,0,none⟩)
 | 1=>fun _ v _ _=>v=.int .i64 d.kind
 | 2=>fun _ v _ _=>v=.pointer (some ⟨g',0,none⟩)
 | 3=>fun _ v _ _=>v=.int .i64 d.kind
 | 4=>fun _ v _ _=>v=.bool false
 | 5=>fun _ v _ _=>v=.bool false
 | 6=>fun _ v _ _=>v=.pointer (some ⟨g,1,none⟩)
 | 7=>fun _ v _ _=>v=.string d.nm
 | 8=>fun _ v _ _=>v=.pointer (some ⟨g',1,none⟩)
 | 9=>fun _ v _ _=>v=.string d.nm
 | 10=>fun _ v _ _=>v=.bool false
 | 11=>fun _ v _ _=>v=.bool false
 | 12=>fun _ v _ _=>v=.bool false
 | 13=>fun _ v _ _=>v=.pointer (some ⟨g,2,none⟩)
 | 14=>fun _ v _ _=>v=.int .i64 d.vars
 | 15=>fun _ v _ _=>v=.pointer (some ⟨g',2,none⟩)
 | 16=>fun _ v _ _=>v=.int .i64 d.vars
 | 17=>fun _ v _ _=>v=.bool false
 | 18=>fun _ v _ _=>v=.bool false
 | 19=>fun _ v _ _=>v=.bool false
 | 20=>fun _ v _ _=>v=.pointer (some ⟨g,19,none⟩)
 | 21=>fun _ v _ _=>v=.int .i64 d.params
 | 22=>fun _ v _ _=>v=.pointer (some ⟨g',19,none⟩)
 | 23=>fun _ v _ _=>v=.int .i64 d.params
 | 24=>fun _ v _ _=>v=.bool false
 | 25=>fun _ v _ _=>v=.bool false
 | 26=>fun _ v _ _=>v=.bool false
 | 27=>fun _ v _ _=>v=.pointer (some ⟨g,3,none⟩)
 | 28=>fun _ v _ _=>v=tmV P.pt d.ty
 | 29=>fun _ v _ _=>v=.pointer (some ⟨g',3,none⟩)
 | 30=>fun _ v _ _=>v=tmV P2.pt d.ty
 | 31=>fun _ v _ _=>v=.bool true
 | 32=>fun _ v _ _=>v=.bool false
 | 33=>fun _ v _ _=>v=.bool false
 | 34=>fun _ v _ _=>v=.bool false
 | 35=>fun _ v _ _=>v=.pointer (some ⟨g,11,none⟩)
 | 36=>fun _ v _ _=>v=tmV P.pv d.val
 | 37=>fun _ v _ _=>v=.pointer (some ⟨g',11,none⟩)
 | 38=>fun _ v _ _=>v=tmV P2.pv d.val
 | 39=>fun _ v _ _=>v=.bool true
 | 40=>fun _ v _ _=>v=.bool false
 | 41=>fun _ v _ _=>v=.bool false
 | 42=>fun _ v _ _=>v=.bool false
 | 43=>fun _ v _ _=>v=.pointer (some ⟨g,20,none⟩)
 | 44=>fun _ v _ _=>v=.slice P.C d.cs.length P.e
 | 45=>fun _ v _ _=>v=.int .i64 d.cs.length
 | 46=>fun _ v _ _=>v=.pointer (some ⟨g',20,none⟩)
 | 47=>fun _ v _ _=>v=.slice P2.C d.cs.length P2.e
 | 48=>fun _ v _ _=>v=.int .i64 d.cs.length
 | 49=>fun _ v _ _=>v=.bool false
 | 50=>fun _ v _ _=>v=.bool false
 | _=>fun _ _ _ _=>True
def deq1_C:Nat→List Nat:=fun rix=>match rix with
 | _=>[]
theorem deq1_nw2:nwB deq1_ops.toArray 2=true:=by kernel_rfl
theorem deq1_nw3:nwB deq1_ops.toArray 3=true:=by kernel_rfl
set_option maxRecDepth 100000 in
set_option maxHeartbeats 8000000 in
theorem deq1_obs (w0:World) (g g':Nat) (d:Dc) (P P2:DPl) (hX:w0.heap[g]?=some (dcO P d)) (hY:w0.heap[g']?=some (dcO P2 d)) (hin:DcIn w0 w0.heap.size P d) (hin2:DcIn w0 w0.heap.size P2 d) (hok:DqOk d) (Q:Exit→Act→World→Prop) (a0:Act) (hi2:a0.tmps.getD 2 undef=.pointer (some ⟨g,0,none⟩)) (hi3:a0.tmps.getD 3 undef=.pointer (some ⟨g',0,none⟩)) :
  ObsE Try.prog deq1_ops.toArray Q (est2 0 0 (fun _=>False) (fun _=>False)) deq1_C (deq1_F w0 g g' d P P2) a0 w0 deq1_ops.toArray.toList 0:=by
 have nw2:=deq1_nw2
 have nw3:=deq1_nw3
 refine ⟨?_,?_,?_,?_,?_,?_,?_,?_,?_,?_,?_,?_,?_,?_,?_,?_,?_,?_,?_,?_,?_,?_,?_,?_,?_,?_,?_,?_,?_,?_,?_,?_,?_,?_,?_,?_,?_,?_,?_,?_,?_,?_,?_,?_,?_,?_,?_,?_,?_,?_,?_,trivial⟩
 ·refine ⟨⟨fun τ=>stableE_det _,leans_not⟩,?_⟩
  intro a w O hk
  have e2:a.eval (.tmp 2)=.pointer (some ⟨g,0,none⟩):=(hk.init 2 (initialB_of_nw nw2)).trans hi2
  exact obE_run (wanted_none rfl) (by unfold execOp;simp only [];rw [e2];go_simp) rfl
 ·refine ⟨⟨fun τ=>stableE_det _,leans_not⟩,?_⟩
  intro a w O hk
  have e7:a.eval (.tmp 7)=.pointer (some ⟨g,0,none⟩):=hk.fact 0 _ 7 rfl rfl rfl rfl
  have zz:=hk.world.still hX (fun ⟨_,h⟩=>h.elim And.right And.right)
  obtain ⟨c0,c1,c2,c3,c4,c5,c6,c7,c8,c9,c10,c11,c12,c13,c14,c15,c16,c17,c18,c19,c20⟩:=row21 zz
  exact obE_run (wanted_none rfl) (by unfold execOp;simp only [];rw [e7];go_simp) rfl
 ·refine ⟨⟨fun τ=>stableE_det _,leans_not⟩,?_⟩
  intro a w O hk
  have e3:a.eval (.tmp 3)=.pointer (some ⟨g',0,none⟩):=(hk.init 3 (initialB_of_nw nw3)).trans hi3
  exact obE_run (wanted_none rfl) (by unfold execOp;simp only [];rw [e3];go_simp) rfl
 ·refine ⟨⟨fun τ=>stableE_det _,leans_not⟩,?_⟩
  intro a w O hk
  have e9:a.eval (.tmp 9)=.pointer (some ⟨g',0,none⟩):=hk.fact 2 _ 9 rfl rfl rfl rfl
  have zz:=hk.world.still hY (fun ⟨_,h⟩=>h.elim And.right And.right)
  obtain ⟨c0,c1,c2,c3,c4,c5,c6,c7,c8,c9,c10,c11,c12,c13,c14,c15,c16,c17,c18,c19,c20⟩:=row21 zz
  exact obE_run (wanted_none rfl) (by unfold execOp;simp only [];rw [e9];go_simp) rfl
 ·refine ⟨⟨fun τ=>stableE_det _,leans_not⟩,?_⟩
  intro a w O hk
  have e8:a.eval (.tmp 8)=.int .i64 d.kind:=hk.fact 1 _ 8 rfl rfl rfl rfl
  have e10:a.eval (.tmp 10)=.int .i64 d.kind:=hk.fact 3 _ 10 rfl rfl rfl rfl
  exact toE (ob_neqInt false rfl e8 e10 (by simp) (wanted_none rfl) rfl)
 ·refine ⟨⟨fun τ=>stableE_det _,leans_not⟩,?_⟩
  intro a w O hk
  have e11:a.eval (.tmp 11)=.bool false:=hk.fact 4 _ 11 rfl rfl rfl rfl
  exact toE (ob_move rfl e11 (wanted_none rfl) rfl)
 ·refine ⟨⟨fun τ=>stableE_det _,leans_not⟩,?_⟩
  intro a w O hk
  have e2:a.eval (.tmp 2)=.pointer (some ⟨g,0,none⟩):=(hk.init 2 (initialB_of_nw nw2)).trans hi2
  have e12:a.eval (.tmp 12)=.bool false:=hk.fact 5 _ 12 rfl rfl rfl rfl
  exact obE_run (wanted_of rfl rfl rfl e12) (by unfold execOp;simp only [];rw [e2];go_simp) rfl
 ·refine ⟨⟨fun τ=>stableE_det _,leans_not⟩,?_⟩
  intro a w O hk
  have e13:a.eval (.tmp 13)=.pointer (some ⟨g,1,none⟩):=hk.fact 6 _ 13 rfl rfl rfl rfl
  have e12:a.eval (.tmp 12)=.bool false:=hk.fact 5 _ 12 rfl rfl rfl rfl
  have zz:=hk.world.still hX (fun ⟨_,h⟩=>h.elim And.right And.right)
  obtain ⟨c0,c1,c2,c3,c4,c5,c6,c7,c8,c9,c10,c11,c12,c13,c14,c15,c16,c17,c18,c19,c20⟩:=row21 zz
  exact obE_run (wanted_of rfl rfl rfl e12) (by unfold execOp;simp only [];rw [e13];go_simp) rfl
 ·refine ⟨⟨fun τ=>stableE_det _,leans_not⟩,?_⟩
  intro a w O hk
  have e3:a.eval (.tmp 3)=.pointer (some ⟨g',0,none⟩):=(hk.init 3 (initialB_of_nw nw3)).trans hi3
  have e12:a.eval (.tmp 12)=.bool false:=hk.fact 5 _ 12 rfl rfl rfl rfl
  exact obE_run (wanted_of rfl rfl rfl e12) (by unfold execOp;simp only [];rw [e3];go_simp) rfl
 ·refine ⟨⟨fun τ=>stableE_det _,leans_not⟩,?_⟩
  intro a w O hk
  have e15:a.eval (.tmp 15)=.pointer (some ⟨g',1,none⟩):=hk.fact 8 _ 15 rfl rfl rfl rfl
  have e12:a.eval (.tmp 12)=.bool false:=hk.fact 5 _ 12 rfl rfl rfl rfl
  have zz:=hk.world.still hY (fun ⟨_,h⟩=>h.elim And.right And.right)
  obtain ⟨c0,c1,c2,c3,c4,c5,c6,c7,c8,c9,c10,c11,c12,c13,c14,c15,c16,c17,c18,c19,c20⟩:=row21 zz
  exact obE_run (wanted_of rfl rfl rfl e12) (by unfold execOp;simp only [];rw [e15];go_simp) rfl
 ·refine ⟨⟨fun τ=>stableE_det _,leans_not⟩,?_⟩
  intro a w O hk
  have e14:a.eval (.tmp 14)=.string d.nm:=hk.fact 7 _ 14 rfl rfl rfl rfl
  have e16:a.eval (.tmp 16)=.string d.nm:=hk.fact 9 _ 16 rfl rfl rfl rfl
  have e12:a.eval (.tmp 12)=.bool false:=hk.fact 5 _ 12 rfl rfl rfl rfl
  exact obE_run (wanted_of rfl rfl rfl e12) (by unfold execOp;simp only [];rw [e14,e16];go_simp) rfl
 ·refine ⟨⟨fun τ=>stableE_det _,leans_not⟩,?_⟩
  intro a w O hk
  have e12:a.eval (.tmp 12)=.bool false:=hk.fact 5 _ 12 rfl rfl rfl rfl
  have e17:a.eval (.tmp 17)=.bool false:=hk.fact 10 _ 17 rfl rfl rfl rfl
  exact toE (ob_pick rfl e12 e17 (wanted_none rfl) rfl)
 ·refine ⟨⟨fun τ=>stableE_det _,leans_not⟩,?_⟩
  intro a w O hk
  have e18:a.eval (.tmp 18)=.bool false:=hk.fact 11 _ 18 rfl rfl rfl rfl
  exact toE (ob_move rfl e18 (wanted_none rfl) rfl)
 ·refine ⟨⟨fun τ=>stableE_det _,leans_not⟩,?_⟩
  intro a w O hk
  have e2:a.eval (.tmp 2)=.pointer (some ⟨g,0,none⟩):=(hk.init 2 (initialB_of_nw nw2)).trans hi2
  have e19:a.eval (.tmp 19)=.bool false:=hk.fact 12 _ 19 rfl rfl rfl rfl
  exact obE_run (wanted_of rfl rfl rfl e19) (by unfold execOp;simp only [];rw [e2];go_simp) rfl
 ·refine ⟨⟨fun τ=>stableE_det _,leans_not⟩,?_⟩
  intro a w O hk
  have e20:a.eval (.tmp 20)=.pointer (some ⟨g,2,none⟩):=hk.fact 13 _ 20 rfl rfl rfl rfl
  have e19:a.eval (.tmp 19)=.bool false:=hk.fact 12 _ 19 rfl rfl rfl rfl
  have zz:=hk.world.still hX (fun ⟨_,h⟩=>h.elim And.right And.right)
  obtain ⟨c0,c1,c2,c3,c4,c5,c6,c7,c8,c9,c10,c11,c12,c13,c14,c15,c16,c17,c18,c19,c20⟩:=row21 zz
  exact obE_run (wanted_of rfl rfl rfl e19) (by unfold execOp;simp only [];rw [e20];go_simp) rfl
 ·refine ⟨⟨fun τ=>stableE_det _,leans_not⟩,?_⟩
  intro a w O hk
  have e3:a.eval (.tmp 3)=.pointer (some ⟨g',0,none⟩):=(hk.init 3 (initialB_of_nw nw3)).trans hi3
  have e19:a.eval (.tmp 19)=.bool false:=hk.fact 12 _ 19 rfl rfl rfl rfl
  exact obE_run (wanted_of rfl rfl rfl e19) (by unfold execOp;simp only [];rw [e3];go_simp) rfl
 ·refine ⟨⟨fun τ=>stableE_det _,leans_not⟩,?_⟩
  intro a w O hk
  have e22:a.eval (.tmp 22)=.pointer (some ⟨g',2,none⟩):=hk.fact 15 _ 22 rfl rfl rfl rfl
  have e19:a.eval (.tmp 19)=.bool false:=hk.fact 12 _ 19 rfl rfl rfl rfl
  have zz:=hk.world.still hY (fun ⟨_,h⟩=>h.elim And.right And.right)
  obtain ⟨c0,c1,c2,c3,c4,c5,c6,c7,c8,c9,c10,c11,c12,c13,c14,c15,c16,c17,c18,c19,c20⟩:=row21 zz
  exact obE_run (wanted_of rfl rfl rfl e19) (by unfold execOp;simp only [];rw [e22];go_simp) rfl
 ·refine ⟨⟨fun τ=>stableE_det _,leans_not⟩,?_⟩
  intro a w O hk
  have e21:a.eval (.tmp 21)=.int .i64 d.vars:=hk.fact 14 _ 21 rfl rfl rfl rfl
  have e23:a.eval (.tmp 23)=.int .i64 d.vars:=hk.fact 16 _ 23 rfl rfl rfl rfl
  have e19:a.eval (.tmp 19)=.bool false:=hk.fact 12 _ 19 rfl rfl rfl rfl
  exact toE (ob_neqInt false rfl e21 e23 (by simp) (wanted_of rfl rfl rfl e19) rfl)
 ·refine ⟨⟨fun τ=>stableE_det _,leans_not⟩,?_⟩
  intro a w O hk
  have e19:a.eval (.tmp 19)=.bool false:=hk.fact 12 _ 19 rfl rfl rfl rfl
  have e24:a.eval (.tmp 24)=.bool false:=hk.fact 17 _ 24 rfl rfl rfl rfl
  exact toE (ob_pick rfl e19 e24 (wanted_none rfl) rfl)
 ·refine ⟨⟨fun τ=>stableE_det _,leans_not⟩,?_⟩
  intro a w O hk
  have e25:a.eval (.tmp 25)=.bool false:=hk.fact 18 _ 25 rfl rfl rfl rfl
  exact toE (ob_move rfl e25 (wanted_none rfl) rfl)
 ·refine ⟨⟨fun τ=>stableE_det _,leans_not⟩,?_⟩
  intro a w O hk
  have e2:a.eval (.tmp 2)=.pointer (some ⟨g,0,none⟩):=(hk.init 2 (initialB_of_nw nw2)).trans hi2
  have e26:a.eval (.tmp 26)=.bool false:=hk.fact 19 _ 26 rfl rfl rfl rfl
  exact obE_run (wanted_of rfl rfl rfl e26) (by unfold execOp;simp only [];rw [e2];go_simp) rfl
 ·refine ⟨⟨fun τ=>stableE_det _,leans_not⟩,?_⟩
  intro a w O hk
  have e27:a.eval (.tmp 27)=.pointer (some ⟨g,19,none⟩):=hk.fact 20 _ 27 rfl rfl rfl rfl
  have e26:a.eval (.tmp 26)=.bool false:=hk.fact 19 _ 26 rfl rfl rfl rfl
  have zz:=hk.world.still hX (fun ⟨_,h⟩=>h.elim And.right And.right)
  obtain ⟨c0,c1,c2,c3,c4,c5,c6,c7,c8,c9,c10,c11,c12,c13,c14,c15,c16,c17,c18,c19,c20⟩:=row21 zz
  exact obE_run (wanted_of rfl rfl rfl e26) (by unfold execOp;simp only [];rw [e27];go_simp) rfl
 ·refine ⟨⟨fun τ=>stableE_det _,leans_not⟩,?_⟩
  intro a w O hk
  have e3:a.eval (.tmp 3)=.pointer (some ⟨g',0,none⟩):=(hk.init 3 (initialB_of_nw nw3)).trans hi3
  have e26:a.eval (.tmp 26)=.bool false:=hk.fact 19 _ 26 rfl rfl rfl rfl
  exact obE_run (wanted_of rfl rfl rfl e26) (by unfold execOp;simp only [];rw [e3];go_simp) rfl
 ·refine ⟨⟨fun τ=>stableE_det _,leans_not⟩,?_⟩
  intro a w O hk
  have e29:a.eval (.tmp 29)=.pointer (some ⟨g',19,none⟩):=hk.fact 22 _ 29 rfl rfl rfl rfl
  have e26:a.eval (.tmp 26)=.bool false:=hk.fact 19 _ 26 rfl rfl rfl rfl
  have zz:=hk.world.still hY (fun ⟨_,h⟩=>h.elim And.right And.right)
  obtain ⟨c0,c1,c2,c3,c4,c5,c6,c7,c8,c9,c10,c11,c12,c13,c14,c15,c16,c17,c18,c19,c20⟩:=row21 zz
  exact obE_run (wanted_of rfl rfl rfl e26) (by unfold execOp;simp only [];rw [e29];go_simp) rfl
 ·refine ⟨⟨fun τ=>stableE_det _,leans_not⟩,?_⟩
  intro a w O hk
  have e28:a.eval (.tmp 28)=.int .i64 d.params:=hk.fact 21 _ 28 rfl rfl rfl rfl
  have e30:a.eval (.tmp 30)=.int .i64 d.params:=hk.fact 23 _ 30 rfl rfl rfl rfl
  have e26:a.eval (.tmp 26)=.bool false:=hk.fact 19 _ 26 rfl rfl rfl rfl
  exact toE (ob_neqInt false rfl e28 e30 (by simp) (wanted_of rfl rfl rfl e26) rfl)
 ·refine ⟨⟨fun τ=>stableE_det _,leans_not⟩,?_⟩
  intro a w O hk
  have e26:a.eval (.tmp 26)=.bool false:=hk.fact 19 _ 26 rfl rfl rfl rfl
  have e31:a.eval (.tmp 31)=.bool false:=hk.fact 24 _ 31 rfl rfl rfl rfl
  exact toE (ob_pick rfl e26 e31 (wanted_none rfl) rfl)
 ·refine ⟨⟨fun τ=>stableE_det _,leans_not⟩,?_⟩
  intro a w O hk
  have e32:a.eval (.tmp 32)=.bool false:=hk.fact 25 _ 32 rfl rfl rfl rfl
  exact toE (ob_move rfl e32 (wanted_none rfl) rfl)
 ·refine ⟨⟨fun τ=>stableE_det _,leans_not⟩,?_⟩
  intro a w O hk
  have e2:a.eval (.tmp 2)=.pointer (some ⟨g,0,none⟩):=(hk.init 2 (initialB_of_nw nw2)).trans hi2
  have e33:a.eval (.tmp 33)=.bool false:=hk.fact 26 _ 33 rfl rfl rfl rfl
  exact obE_run (wanted_of rfl rfl rfl e33) (by unfold execOp;simp only [];rw [e2];go_simp) rfl
 ·refine ⟨⟨fun τ=>stableE_det _,leans_not⟩,?_⟩
  intro a w O hk
  have e34:a.eval (.tmp 34)=.pointer (some ⟨g,3,none⟩):=hk.fact 27 _ 34 rfl rfl rfl rfl
  have e33:a.eval (.tmp 33)=.bool false:=hk.fact 26 _ 33 rfl rfl rfl rfl
  have zz:=hk.world.still hX (fun ⟨_,h⟩=>h.elim And.right And.right)
  obtain ⟨c0,c1,c2,c3,c4,c5,c6,c7,c8,c9,c10,c11,c12,c13,c14,c15,c16,c17,c18,c19,c20⟩:=row21 zz
  exact obE_run (wanted_of rfl rfl rfl e33) (by unfold execOp;simp only [];rw [e34];unfold tmV;go_simp) rfl
 ·refine ⟨⟨fun τ=>stableE_det _,leans_not⟩,?_⟩
  intro a w O hk
  have e3:a.eval (.tmp 3)=.pointer (some ⟨g',0,none⟩):=(hk.init 3 (initialB_of_nw nw3)).trans hi3
  have e33:a.eval (.tmp 33)=.bool false:=hk.fact 26 _ 33 rfl rfl rfl rfl
  exact obE_run (wanted_of rfl rfl rfl e33) (by unfold execOp;simp only [];rw [e3];go_simp) rfl
 ·refine ⟨⟨fun τ=>stableE_det _,leans_not⟩,?_⟩
  intro a w O hk
  have e36:a.eval (.tmp 36)=.pointer (some ⟨g',3,none⟩):=hk.fact 29 _ 36 rfl rfl rfl rfl
  have e33:a.eval (.tmp 33)=.bool false:=hk.fact 26 _ 33 rfl rfl rfl rfl
  have zz:=hk.world.still hY (fun ⟨_,h⟩=>h.elim And.right And.right)
  obtain ⟨c0,c1,c2,c3,c4,c5,c6,c7,c8,c9,c10,c11,c12,c13,c14,c15,c16,c17,c18,c19,c20⟩:=row21 zz
  exact obE_run (wanted_of rfl rfl rfl e33) (by unfold execOp;simp only [];rw [e36];unfold tmV;go_simp) rfl
 ·refine ⟨⟨fun τ=>stableE_det _,leans_not⟩,?_⟩
  intro a w O hk
  have e35:a.eval (.tmp 35)=tmV P.pt d.ty:=hk.fact 28 _ 35 rfl rfl rfl rfl
  have e37:a.eval (.tmp 37)=tmV P2.pt d.ty:=hk.fact 30 _ 37 rfl rfl rfl rfl
  have e33:a.eval (.tmp 33)=.bool false:=hk.fact 26 _ 33 rfl rfl rfl rfl
  exact obE_callV #[tmV P.pt d.ty,tmV P2.pt d.ty] rfl rfl rfl rfl (by simp only [List.map_cons,List.map_nil];rw [e35,e37]) (wanted_of rfl rfl rfl e33) (tEqual_self d.ty hok.ty.1 hok.ty.2 P.pt P2.pt w (DcS.all (DcIn.stay hin (hk.world.below (fun k ⟨_,h⟩=>h.elim (fun h=>h.2.elim) fun h=>h.2.elim) (Nat.le_refl _)))).ty (DcS.all (DcIn.stay hin2 (hk.world.below (fun k ⟨_,h⟩=>h.elim (fun h=>h.2.elim) fun h=>h.2.elim) (Nat.le_refl _)))).ty)
 ·refine ⟨⟨fun τ=>stableE_det _,leans_not⟩,?_⟩
  intro a w O hk
  have e38:a.eval (.tmp 38)=.bool true:=hk.fact 31 _ 38 rfl rfl rfl rfl
  have e33:a.eval (.tmp 33)=.bool false:=hk.fact 26 _ 33 rfl rfl rfl rfl
  exact obE_run (wanted_of rfl rfl rfl e33) (by unfold execOp;simp only [];rw [e38];go_simp) rfl
 ·refine ⟨⟨fun τ=>stableE_det _,leans_not⟩,?_⟩
  intro a w O hk
  have e33:a.eval (.tmp 33)=.bool false:=hk.fact 26 _ 33 rfl rfl rfl rfl
  have e39:a.eval (.tmp 39)=.bool false:=hk.fact 32 _ 39 rfl rfl rfl rfl
  exact toE (ob_pick rfl e33 e39 (wanted_none rfl) rfl)
 ·refine ⟨⟨fun τ=>stableE_det _,leans_not⟩,?_⟩
  intro a w O hk
  have e40:a.eval (.tmp 40)=.bool false:=hk.fact 33 _ 40 rfl rfl rfl rfl
  exact toE (ob_move rfl e40 (wanted_none rfl) rfl)
 ·refine ⟨⟨fun τ=>stableE_det _,leans_not⟩,?_⟩
  intro a w O hk
  have e2:a.eval (.tmp 2)=.pointer (some ⟨g,0,none⟩):=(hk.init 2 (initialB_of_nw nw2)).trans hi2
  have e41:a.eval (.tmp 41)=.bool false:=hk.fact 34 _ 41 rfl rfl rfl rfl
  exact obE_run (wanted_of rfl rfl rfl e41) (by unfold execOp;simp only [];rw [e2];go_simp) rfl
 ·refine ⟨⟨fun τ=>stableE_det _,leans_not⟩,?_⟩
  intro a w O hk
  have e42:a.eval (.tmp 42)=.pointer (some ⟨g,11,none⟩):=hk.fact 35 _ 42 rfl rfl rfl rfl
  have e41:a.eval (.tmp 41)=.bool false:=hk.fact 34 _ 41 rfl rfl rfl rfl
  have zz:=hk.world.still hX (fun ⟨_,h⟩=>h.elim And.right And.right)
  obtain ⟨c0,c1,c2,c3,c4,c5,c6,c7,c8,c9,c10,c11,c12,c13,c14,c15,c16,c17,c18,c19,c20⟩:=row21 zz
  exact obE_run (wanted_of rfl rfl rfl e41) (by unfold execOp;simp only [];rw [e42];unfold tmV;go_simp) rfl
 ·refine ⟨⟨fun τ=>stableE_det _,leans_not⟩,?_⟩
  intro a w O hk
  have e3:a.eval (.tmp 3)=.pointer (some ⟨g',0,none⟩):=(hk.init 3 (initialB_of_nw nw3)).trans hi3
  have e41:a.eval (.tmp 41)=.bool false:=hk.fact 34 _ 41 rfl rfl rfl rfl
  exact obE_run (wanted_of rfl rfl rfl e41) (by unfold execOp;simp only [];rw [e3];go_simp) rfl
 ·refine ⟨⟨fun τ=>stableE_det _,leans_not⟩,?_⟩
  intro a w O hk
  have e44:a.eval (.tmp 44)=.pointer (some ⟨g',11,none⟩):=hk.fact 37 _ 44 rfl rfl rfl rfl
  have e41:a.eval (.tmp 41)=.bool false:=hk.fact 34 _ 41 rfl rfl rfl rfl
  have zz:=hk.world.still hY (fun ⟨_,h⟩=>h.elim And.right And.right)
  obtain ⟨c0,c1,c2,c3,c4,c5,c6,c7,c8,c9,c10,c11,c12,c13,c14,c15,c16,c17,c18,c19,c20⟩:=row21 zz
  exact obE_run (wanted_of rfl rfl rfl e41) (by unfold execOp;simp only [];rw [e44];unfold tmV;go_simp) rfl
 ·refine ⟨⟨fun τ=>stableE_det _,leans_not⟩,?_⟩
  intro a w O hk
  have e43:a.eval (.tmp 43)=tmV P.pv d.val:=hk.fact 36 _ 43 rfl rfl rfl rfl
  have e45:a.eval (.tmp 45)=tmV P2.pv d.val:=hk.fact 38 _ 45 rfl rfl rfl rfl
  have e41:a.eval (.tmp 41)=.bool false:=hk.fact 34 _ 41 rfl rfl rfl rfl
  exact obE_callV #[tmV P.pv d.val,tmV P2.pv d.val] rfl rfl rfl rfl (by simp only [List.map_cons,List.map_nil];rw [e43,e45]) (wanted_of rfl rfl rfl e41) (tEqual_self d.val hok.val.1 hok.val.2 P.pv P2.pv w (DcS.all (DcIn.stay hin (hk.world.below (fun k ⟨_,h⟩=>h.elim (fun h=>h.2.elim) fun h=>h.2.elim) (Nat.le_refl _)))).val (DcS.all (DcIn.stay hin2 (hk.world.below (fun k ⟨_,h⟩=>h.elim (fun h=>h.2.elim) fun h=>h.2.elim) (Nat.le_refl _)))).val)
 ·refine ⟨⟨fun τ=>stableE_det _,leans_not⟩,?_⟩
  intro a w O hk
  have e46:a.eval (.tmp 46)=.bool true:=hk.fact 39 _ 46 rfl rfl rfl rfl
  have e41:a.eval (.tmp 41)=.bool false:=hk.fact 34 _ 41 rfl rfl rfl rfl
  exact obE_run (wanted_of rfl rfl rfl e41) (by unfold execOp;simp only [];rw [e46];go_simp) rfl
 ·refine ⟨⟨fun τ=>stableE_det _,leans_not⟩,?_⟩
  intro a w O hk
  have e41:a.eval (.tmp 41)=.bool false:=hk.fact 34 _ 41 rfl rfl rfl rfl
  have e47:a.eval (.tmp 47)=.bool false:=hk.fact 40 _ 47 rfl rfl rfl rfl
  exact toE (ob_pick rfl e41 e47 (wanted_none rfl) rfl)
 ·refine ⟨⟨fun τ=>stableE_det _,leans_not⟩,?_⟩
  intro a w O hk
  have e48:a.eval (.tmp 48)=.bool false:=hk.fact 41 _ 48 rfl rfl rfl rfl
  exact toE (ob_move rfl e48 (wanted_none rfl) rfl)
 ·refine ⟨⟨fun τ=>stableE_det _,leans_not⟩,?_⟩
  intro a w O hk
  have e2:a.eval (.tmp 2)=.pointer (some ⟨g,0,none⟩):=(hk.init 2 (initialB_of_nw nw2)).trans hi2
  have e49:a.eval (.tmp 49)=.bool false:=hk.fact 42 _ 49 rfl rfl rfl rfl
  exact obE_run (wanted_of rfl rfl rfl e49) (by unfold execOp;simp only [];rw [e2];go_simp) rfl
 ·refine ⟨⟨fun τ=>stableE_det _,leans_not⟩,?_⟩
  intro a w O hk
  have e50:a.eval (.tmp 50)=.pointer (some ⟨g,20,none⟩):=hk.fact 43 _ 50 rfl rfl rfl rfl
  have e49:a.eval (.tmp 49)=.bool false:=hk.fact 42 _ 49 rfl rfl rfl rfl
  have zz:=hk.world.still hX (fun ⟨_,h⟩=>h.elim And.right And.right)
  obtain ⟨c0,c1,c2,c3,c4,c5,c6,c7,c8,c9,c10,c11,c12,c13,c14,c15,c16,c17,c18,c19,c20⟩:=row21 zz
  exact obE_run (wanted_of rfl rfl rfl e49) (by unfold execOp;simp only [];rw [e50];go_simp) rfl
 ·refine ⟨⟨fun τ=>stableE_det _,leans_not⟩,?_⟩
  intro a w O hk
  have e51:a.eval (.tmp 51)=.slice P.C d.cs.length P.e:=hk.fact 44 _ 51 rfl rfl rfl rfl
  have e49:a.eval (.tmp 49)=.bool false:=hk.fact 42 _ 49 rfl rfl rfl rfl
  exact toE (ob_len rfl e51 Try.underlying28 (wanted_of rfl rfl rfl e49) rfl)
 ·refine ⟨⟨fun τ=>stableE_det _,leans_not⟩,?_⟩
  intro a w O hk
  have e3:a.eval (.tmp 3)=.pointer (some ⟨g',0,none⟩):=(hk.init 3 (initialB_of_nw nw3)).trans hi3
  have e49:a.eval (.tmp 49)=.bool false:=hk.fact 42 _ 49 rfl rfl rfl rfl
  exact obE_run (wanted_of rfl rfl rfl e49) (by unfold execOp;simp only [];rw [e3];go_simp) rfl
 ·refine ⟨⟨fun τ=>stableE_det _,leans_not⟩,?_⟩
  intro a w O hk
  have e53:a.eval (.tmp 53)=.pointer (some ⟨g',20,none⟩):=hk.fact 46 _ 53 rfl rfl rfl rfl
  have e49:a.eval (.tmp 49)=.bool false:=hk.fact 42 _ 49 rfl rfl rfl rfl
  have zz:=hk.world.still hY (fun ⟨_,h⟩=>h.elim And.right And.right)
  obtain ⟨c0,c1,c2,c3,c4,c5,c6,c7,c8,c9,c10,c11,c12,c13,c14,c15,c16,c17,c18,c19,c20⟩:=row21 zz
  exact obE_run (wanted_of rfl rfl rfl e49) (by unfold execOp;simp only [];rw [e53];go_simp) rfl
 ·refine ⟨⟨fun τ=>stableE_det _,leans_not⟩,?_⟩
  intro a w O hk
  have e54:a.eval (.tmp 54)=.slice P2.C d.cs.length P2.e:=hk.fact 47 _ 54 rfl rfl rfl rfl
  have e49:a.eval (.tmp 49)=.bool false:=hk.fact 42 _ 49 rfl rfl rfl rfl
  exact toE (ob_len rfl e54 Try.underlying28 (wanted_of rfl rfl rfl e49) rfl)
 ·refine ⟨⟨fun τ=>stableE_det _,leans_not⟩,?_⟩
  intro a w O hk
  have e52:a.eval (.tmp 52)=.int .i64 d.cs.length:=hk.fact 45 _ 52 rfl rfl rfl rfl
  have e55:a.eval (.tmp 55)=.int .i64 d.cs.length:=hk.fact 48 _ 55 rfl rfl rfl rfl
  have e49:a.eval (.tmp 49)=.bool false:=hk.fact 42 _ 49 rfl rfl rfl rfl
  exact toE (ob_neqInt false rfl e52 e55 (by simp) (wanted_of rfl rfl rfl e49) rfl)
 ·refine ⟨⟨fun τ=>stableE_det _,leans_not⟩,?_⟩
  intro a w O hk
  have e49:a.eval (.tmp 49)=.bool false:=hk.fact 42 _ 49 rfl rfl rfl rfl
  have e56:a.eval (.tmp 56)=.bool false:=hk.fact 49 _ 56 rfl rfl rfl rfl
  exact toE (ob_pick rfl e49 e56 (wanted_none rfl) rfl)
set_option maxRecDepth 100000 in
set_option maxHeartbeats 8000000 in
theorem deq1_region {Q:Exit→Act→World→Prop} {id:Nat} (w0:World) (g g':Nat) (d:Dc) (P P2:DPl) {s0 s1 s4 s5 s6 s7 s8 s9 s10 s11 s12 s13 s14 s15 s16 s17 s18 s19 s20 s21 s22 s23 s24 s25 s26 s27 s28 s29 s30 s31 s32 s33 s34 s35 s36 s37 s38 s39 s40 s41 s42 s43 s44 s45 s46 s47 s48 s49 s50 s51 s52 s53 s54 s55 s56 s57 s58 s59 s60 s61 s62 s63 s64 s65 s66 s67 s68 s69 s70 s71 s72 s73 s74 s75 s76 s77 s78 s79 s80 s81 s82 s83 s84 s85 s86 s87:Value} (hX:w0.heap[g]?=some (dcO P d)) (hY:w0.heap[g']?=some (dcO P2 d)) (hin:DcIn w0 w0.heap.size P d) (hin2:DcIn w0 w0.heap.size P2 d) (hok:DqOk d)
  (hend:∀ (w':World),Chg (fun k=>False∨False) w0 w'→Q .normal { tmps:=(s0 :: s1 :: (.pointer (some ⟨g,0,none⟩)) :: (.pointer (some ⟨g',0,none⟩)) :: s4 :: s5 :: s6 :: (.pointer (some ⟨g,0,none⟩)) :: (.int .i64 d.kind) :: (.pointer (some ⟨g',0,none⟩)) :: (.int .i64 d.kind) :: (.bool false) :: (.bool false) :: (.pointer (some ⟨g,1,none⟩)) :: (.string d.nm) :: (.pointer (some ⟨g',1,none⟩)) :: (.string d.nm) :: (.bool false) :: (.bool false) :: (.bool false) :: (.pointer (some ⟨g,2,none⟩)) :: (.int .i64 d.vars) :: (.pointer (some ⟨g',2,none⟩)) :: (.int .i64 d.vars) :: (.bool false) :: (.bool false) :: (.bool false) :: (.pointer (some ⟨g,19,none⟩)) :: (.int .i64 d.params) :: (.pointer (some ⟨g',19,none⟩)) :: (.int .i64 d.params) :: (.bool false) :: (.bool false) :: (.bool false) :: (.pointer (some ⟨g,3,none⟩)) :: (tmV P.pt d.ty) :: (.pointer (some ⟨g',3,none⟩)) :: (tmV P2.pt d.ty) :: (.bool true) :: (.bool false) :: (.bool false) :: (.bool false) :: (.pointer (some ⟨g,11,none⟩)) :: (tmV P.pv d.val) :: (.pointer (some ⟨g',11,none⟩)) :: (tmV P2.pv d.val) :: (.bool true) :: (.bool false) :: (.bool false) :: (.bool false) :: (.pointer (some ⟨g,20,none⟩)) :: (.slice P.C d.cs.length P.e) :: (.int .i64 d.cs.length) :: (.pointer (some ⟨g',20,none⟩)) :: (.slice P2.C d.cs.length P2.e) :: (.int .i64 d.cs.length) :: (.bool false) :: (.bool false) :: s58 :: s59 :: s60 :: s61 :: s62 :: s63 :: s64 :: s65 :: s66 :: s67 :: s68 :: s69 :: s70 :: s71 :: s72 :: s73 :: s74 :: s75 :: s76 :: s77 :: s78 :: s79 :: s80 :: s81 :: s82 :: s83 :: s84 :: s85 :: s86 :: s87 :: []:List Value).toArray,defers:=[] } w') :
  (Code.region id deq1_ops.toArray false).wp Try.prog Q { tmps:=(s0 :: s1 :: (.pointer (some ⟨g,0,none⟩)) :: (.pointer (some ⟨g',0,none⟩)) :: s4 :: s5 :: s6 :: s7 :: s8 :: s9 :: s10 :: s11 :: s12 :: s13 :: s14 :: s15 :: s16 :: s17 :: s18 :: s19 :: s20 :: s21 :: s22 :: s23 :: s24 :: s25 :: s26 :: s27 :: s28 :: s29 :: s30 :: s31 :: s32 :: s33 :: s34 :: s35 :: s36 :: s37 :: s38 :: s39 :: s40 :: s41 :: s42 :: s43 :: s44 :: s45 :: s46 :: s47 :: s48 :: s49 :: s50 :: s51 :: s52 :: s53 :: s54 :: s55 :: s56 :: s57 :: s58 :: s59 :: s60 :: s61 :: s62 :: s63 :: s64 :: s65 :: s66 :: s67 :: s68 :: s69 :: s70 :: s71 :: s72 :: s73 :: s74 :: s75 :: s76 :: s77 :: s78 :: s79 :: s80 :: s81 :: s82 :: s83 :: s84 :: s85 :: s86 :: s87 :: []:List Value).toArray,defers:=[] } w0:=by
 refine wp_region_est0 (est2 0 0 (fun _=>False) (fun _=>False)) deq1_C (deq1_F w0 g g' d P P2) (est2_dis (fun _ h _=>h)) (est2_range (fun _ h=>h.elim) (fun _ h=>h.elim)) (by rfl) (by kernel_rfl) (deq1_obs w0 g g' d P P2 hX hY hin hin2 hok _ _ rfl rfl) ?_
 intro a w' O hd hs hb hf hf2 ha hsame
 have hl:=slots_eq (ops:=deq1_ops.toArray) ((7,.pointer (some ⟨g,0,none⟩)) :: (8,.int .i64 d.kind) :: (9,.pointer (some ⟨g',0,none⟩)) :: (10,.int .i64 d.kind) :: (11,.bool false) :: (12,.bool false) :: (13,.pointer (some ⟨g,1,none⟩)) :: (14,.string d.nm) :: (15,.pointer (some ⟨g',1,none⟩)) :: (16,.string d.nm) :: (17,.bool false) :: (18,.bool false) :: (19,.bool false) :: (20,.pointer (some ⟨g,2,none⟩)) :: (21,.int .i64 d.vars) :: (22,.pointer (some ⟨g',2,none⟩)) :: (23,.int .i64 d.vars) :: (24,.bool false) :: (25,.bool false) :: (26,.bool false) :: (27,.pointer (some ⟨g,19,none⟩)) :: (28,.int .i64 d.params) :: (29,.pointer (some ⟨g',19,none⟩)) :: (30,.int .i64 d.params) :: (31,.bool false) :: (32,.bool false) :: (33,.bool false) :: (34,.pointer (some ⟨g,3,none⟩)) :: (35,tmV P.pt d.ty) :: (36,.pointer (some ⟨g',3,none⟩)) :: (37,tmV P2.pt d.ty) :: (38,.bool true) :: (39,.bool false) :: (40,.bool false) :: (41,.bool false) :: (42,.pointer (some ⟨g,11,none⟩)) :: (43,tmV P.pv d.val) :: (44,.pointer (some ⟨g',11,none⟩)) :: (45,tmV P2.pv d.val) :: (46,.bool true) :: (47,.bool false) :: (48,.bool false) :: (49,.bool false) :: (50,.pointer (some ⟨g,20,none⟩)) :: (51,.slice P.C d.cs.length P.e) :: (52,.int .i64 d.cs.length) :: (53,.pointer (some ⟨g',20,none⟩)) :: (54,.slice P2.C d.cs.length P2.e) :: (55,.int .i64 d.cs.length) :: (56,.bool false) :: (57,.bool false) :: []:List (Nat × Value)) (show a.tmps.size=88 from hs) (fun i h=>hsame i h) ⟨(hf 0 _ 7 rfl rfl (by decide)).1,(hf 1 _ 8 rfl rfl (by decide)).1,(hf 2 _ 9 rfl rfl (by decide)).1,(hf 3 _ 10 rfl rfl (by decide)).1,(hf 4 _ 11 rfl rfl (by decide)).1,(hf 5 _ 12 rfl rfl (by decide)).1,(hf 6 _ 13 rfl rfl (by decide)).1,(hf 7 _ 14 rfl rfl (by decide)).1,(hf 8 _ 15 rfl rfl (by decide)).1,(hf 9 _ 16 rfl rfl (by decide)).1,(hf 10 _ 17 rfl rfl (by decide)).1,(hf 11 _ 18 rfl rfl (by decide)).1,(hf 12 _ 19 rfl rfl (by decide)).1,(hf 13 _ 20 rfl rfl (by decide)).1,(hf 14 _ 21 rfl rfl (by decide)).1,(hf 15 _ 22 rfl rfl (by decide)).1,(hf 16 _ 23 rfl rfl (by decide)).1,(hf 17 _ 24 rfl rfl (by decide)).1,(hf 18 _ 25 rfl rfl (by decide)).1,(hf 19 _ 26 rfl rfl (by decide)).1,(hf 20 _ 27 rfl rfl (by decide)).1,(hf 21 _ 28 rfl rfl (by decide)).1,(hf 22 _ 29 rfl rfl (by decide)).1,(hf 23 _ 30 rfl rfl (by decide)).1,(hf 24 _ 31 rfl rfl (by decide)).1,(hf 25 _ 32 rfl rfl (by decide)).1,(hf 26 _ 33 rfl rfl (by decide)).1,(hf 27 _ 34 rfl rfl (by decide)).1,(hf 28 _ 35 rfl rfl (by decide)).1,(hf 29 _ 36 rfl rfl (by decide)).1,(hf 30 _ 37 rfl rfl (by decide)).1,(hf 31 _ 38 rfl rfl (by decide)).1,(hf 32 _ 39 rfl rfl (by decide)).1,(hf 33 _ 40 rfl rfl (by decide)).1,(hf 34 _ 41 rfl rfl (by decide)).1,(hf 35 _ 42 rfl rfl (by decide)).1,(hf 36 _ 43 rfl rfl (by decide)).1,(hf 37 _ 44 rfl rfl (by decide)).1,(hf 38 _ 45 rfl rfl (by decide)).1,(hf 39 _ 46 rfl rfl (by decide)).1,(hf 40 _ 47 rfl rfl (by decide)).1,(hf 41 _ 48 rfl rfl (by decide)).1,(hf 42 _ 49 rfl rfl (by decide)).1,(hf 43 _ 50 rfl rfl (by decide)).1,(hf 44 _ 51 rfl rfl (by decide)).1,(hf 45 _ 52 rfl rfl (by decide)).1,(hf 46 _ 53 rfl rfl (by decide)).1,(hf 47 _ 54 rfl rfl (by decide)).1,(hf 48 _ 55 rfl rfl (by decide)).1,(hf 49 _ 56 rfl rfl (by decide)).1,(hf 50 _ 57 rfl rfl (by decide)).1,trivial⟩ (by kernel_rfl)
 obtain ⟨tmps,defers⟩:=a
 obtain rfl:defers=[]:=hd
 have hl':tmps=_:=hl
 rw [hl']
 have hb':=est2_chg hb
 refine Eq.mp ?_ (hend w' ⟨hb'.os,hb'.tape,hb'.output,hb'.size,hb'.block⟩)
 kernel_rfl

def deq6_ops:List Oper:=[
 { dst:=some 66,op:=Go.Op.fieldAddr 63 (Go.Operand.tmp 6) 0,type:=0,pos:= "ref.go:546",after:=#[],guard:=none },
 { dst:=some 67,op:=Go.Op.load 9 (Go.Operand.tmp 66),type:=9,pos:= "ref.go:546",after:=#[{ on:=0,ground:=Go.Ground.data }],guard:=none },
 { dst:=some 68,op:=Go.Op.fieldAddr 30 (Go.Operand.tmp 3) 6,type:=0,pos:= "ref.go:546",after:=#[],guard:=none },
 { dst:=some 69,op:=Go.Op.load 28 (Go.Operand.tmp 68),type:=28,pos:= "ref.go:546",after:=#[{ on:=2,ground:=Go.Ground.data }],guard:=none },
 { dst:=some 70,op:=Go.Op.move (Go.Operand.tmp 5),type:=3,pos:= "ref.go:546",after:=#[],guard:=none },
 { dst:=some 71,op:=Go.Op.indexAddr 28 (Go.Operand.tmp 69) (Go.Operand.tmp 70),type:=0,pos:= "ref.go:546",after:=#[{ on:=3,ground:=Go.Ground.data },{ on:=4,ground:=Go.Ground.data }],guard:=none },
 { dst:=some 72,op:=Go.Op.fieldAddr 63 (Go.Operand.tmp 71) 0,type:=0,pos:= "ref.go:546",after:=#[{ on:=5,ground:=Go.Ground.data }],guard:=none },
 { dst:=some 73,op:=Go.Op.load 9 (Go.Operand.tmp 72),type:=9,pos:= "ref.go:546",after:=#[{ on:=6,ground:=Go.Ground.data }],guard:=none },
 { dst:=some 74,op:=Go.Op.binOp Go.BinOp.neq 9 (Go.Operand.tmp 67) (Go.Operand.tmp 73) 9,type:=4,pos:= "ref.go:546",after:=#[{ on:=1,ground:=Go.Ground.data },{ on:=7,ground:=Go.Ground.data }],guard:=none },
 { dst:=some 75,op:=Go.Op.move (Go.Operand.tmp 74),type:=4,pos:= "ref.go:546",after:=#[{ on:=8,ground:=Go.Ground.data }],guard:=none },
 { dst:=some 76,op:=Go.Op.fieldAddr 63 (Go.Operand.tmp 6) 1,type:=0,pos:= "ref.go:546",after:=#[{ on:=9,ground:=Go.Ground.guard }],guard:=some (9,false) },
 { dst:=some 77,op:=Go.Op.load 27 (Go.Operand.tmp 76),type:=27,pos:= "ref.go:546",after:=#[{ on:=10,ground:=Go.Ground.data },{ on:=9,ground:=Go.Ground.guard }],guard:=some (9,false) },
 { dst:=some 78,op:=Go.Op.fieldAddr 30 (Go.Operand.tmp 3) 6,type:=0,pos:= "ref.go:546",after:=#[{ on:=9,ground:=Go.Ground.guard }],guard:=some (9,false) },
 { dst:=some 79,op:=Go.Op.load 28 (Go.Operand.tmp 78),type:=28,pos:= "ref.go:546",after:=#[{ on:=12,ground:=Go.Ground.data },{ on:=9,ground:=Go.Ground.guard }],guard:=some (9,false) },
 { dst:=some 80,op:=Go.Op.move (Go.Operand.tmp 5),type:=3,pos:= "ref.go:546",after:=#[{ on:=9,ground:=Go.Ground.guard }],guard:=some (9,false) },
 { dst:=some 81,op:=Go.Op.indexAddr 28 (Go.Operand.tmp 79) (Go.Operand.tmp 80),type:=0,pos:= "ref.go:546",after:=#[{ on:=13,ground:=Go.Ground.data },{ on:=14,ground:=Go.Ground.data },{ on:=9,ground:=Go.Ground.guard }],guard:=some (9,false) },
 { dst:=some 82,op:=Go.Op.fieldAddr 63 (Go.Operand.tmp 81) 1,type:=0,pos:= "ref.go:546",after:=#[{ on:=15,ground:=Go.Ground.data },{ on:=9,ground:=Go.Ground.guard }],guard:=some (9,false) },
 { dst:=some 83,op:=Go.Op.load 27 (Go.Operand.tmp 82),type:=27,pos:= "ref.go:546",after:=#[{ on:=16,ground:=Go.Ground.data },{ on:=9,ground:=Go.Ground.guard }],guard:=some (9,false) },
 { dst:=some 84,op:=Go.Op.call { callee:=Go.Callee.value (Go.Operand.func 46),args:=#[Go.Operand.tmp 77,Go.Operand.tmp 83],argTypes:=#[27,27] },type:=4,pos:= "ref.go:546",after:=#[{ on:=11,ground:=Go.Ground.data },{ on:=17,ground:=Go.Ground.data },{ on:=9,ground:=Go.Ground.chain },{ on:=9,ground:=Go.Ground.guard }],guard:=some (9,false) },
 { dst:=some 85,op:=Go.Op.unOp Go.UnOp.not 4 (Go.Operand.tmp 84),type:=4,pos:= "ref.go:546",after:=#[{ on:=18,ground:=Go.Ground.data },{ on:=9,ground:=Go.Ground.guard }],guard:=some (9,false) },
 { dst:=some 86,op:=Go.Op.pick (Go.Operand.tmp 75) (Go.Operand.const (Go.Value.bool true)) (Go.Operand.tmp 85),type:=4,pos:= "ref.go:546",after:=#[{ on:=9,ground:=Go.Ground.data },{ on:=19,ground:=Go.Ground.data }],guard:=none }]
def deq6_F (w0:World) (g' gc i:Nat) (d:Dc) (P2:DPl) (c:Ct) (p q:Pl) (gd od m:Nat):Nat→(Nat→Value)→Value→World→(Nat→Prop)→Prop:=fun rix=>match rix with
 | 0=>fun _ v _ _=>v=.pointer (some ⟨gc,0,none⟩)
 | 1=>fun _ v _ _=>v=.string c.nm
 | 2=>fun _ v _ _=>v=.pointer (some ⟨g',20,none⟩)
 | 3=>fun _ v _ _=>v=.slice (some ⟨gd,od,none⟩) m P2.e
 | 4=>fun _ v _ _=>v=.int .i64 i
 | 5=>fun _ v _ _=>v=.pointer (some ⟨gd,od+i * 9,none⟩)
 | 6=>fun _ v _ _=>v=.pointer (some ⟨gd,od+i * 9,none⟩)
 | 7=>fun _ v _ _=>v=.string c.nm
 | 8=>fun _ v _ _=>v=.bool false
 | 9=>fun _ v _ _=>v=.bool false
 | 10=>fun _ v _ _=>v=.pointer (some ⟨gc,1,none⟩)
 | 11=>fun _ v _ _=>v=tmV p c.ty
 | 12=>fun _ v _ _=>v=.pointer (some ⟨g',20,none⟩)
 | 13=>fun _ v _ _=>v=.slice (some ⟨gd,od,none⟩) m P2.e
 | 14=>fun _ v _ _=>v=.int .i64 i
 | 15=>fun _ v _ _=>v=.pointer (some ⟨gd,od+i * 9,none⟩)
 | 16=>fun _ v _ _=>v=.pointer (some ⟨gd,od+i * 9+1,none⟩)
 | 17=>fun _ v _ _=>v=tmV q c.ty
 | 18=>fun _ v _ _=>v=.bool true
 | 19=>fun _ v _ _=>v=.bool false
 | 20=>fun _ v _ _=>v=.bool false
 | _=>fun _ _ _ _=>True
def deq6_C:Nat→List Nat:=fun rix=>match rix with
 | _=>[]
theorem deq6_nw3:nwB deq6_ops.toArray 3=true:=by kernel_rfl
theorem deq6_nw5:nwB deq6_ops.toArray 5=true:=by kernel_rfl
theorem deq6_nw6:nwB deq6_ops.toArray 6=true:=by kernel_rfl
set_option maxRecDepth 100000 in
set_option maxHeartbeats 8000000 in
theorem deq6_obs (w0:World) (g' gc i:Nat) (d:Dc) (P2:DPl) (c:Ct) (p q:Pl) (gd od m:Nat) (hY:w0.heap[g']?=some (dcO P2 d)) (hZ:w0.heap[gc]?=some (ctO p c)) (hC:P2.C=some ⟨gd,od,none⟩) (hm:d.cs.length=m) (hgd:gd<w0.heap.size) (him:i<m) (hm9:m≤9223372036854775807) (cb0:w0.cell? ⟨gd,od+i * 9,none⟩=some (.string c.nm)) (cb1:w0.cell? ⟨gd,od+i * 9+1,none⟩=some (.int .i64 c.ty.kind)) (cb2:w0.cell? ⟨gd,od+i * 9+1+1,none⟩=some (.int .i64 c.ty.num)) (cb3:w0.cell? ⟨gd,od+i * 9+1+2,none⟩=some (.string c.ty.name)) (cb4:w0.cell? ⟨gd,od+i * 9+1+3,none⟩=some (.int .i64 c.ty.lv.kind)) (cb5:w0.cell? ⟨gd,od+i * 9+1+4,none⟩=some (.int .i64 c.ty.lv.num)) (cb6:w0.cell? ⟨gd,od+i * 9+1+5,none⟩=some (.slice q.A c.ty.lv.kids.length q.c)) (cb7:w0.cell? ⟨gd,od+i * 9+1+6,none⟩=some (.slice q.B c.ty.ls.length q.d)) (cb8:w0.cell? ⟨gd,od+i * 9+1+7,none⟩=some (.slice q.K c.ty.kids.length q.e)) (hi1:TmIn w0 w0.heap.size p c.ty) (hi2:TmIn w0 w0.heap.size q c.ty) (hok:TqOk c.ty) (Q:Exit→Act→World→Prop) (a0:Act) (hi3:a0.tmps.getD 3 undef=.pointer (some ⟨g',0,none⟩)) (hi5:a0.tmps.getD 5 undef=.int .i64 i) (hi6:a0.tmps.getD 6 undef=.pointer (some ⟨gc,0,none⟩)) :
  ObsE Try.prog deq6_ops.toArray Q (est2 0 0 (fun _=>False) (fun _=>False)) deq6_C (deq6_F w0 g' gc i d P2 c p q gd od m) a0 w0 deq6_ops.toArray.toList 0:=by
 have nw3:=deq6_nw3
 have nw5:=deq6_nw5
 have nw6:=deq6_nw6
 refine ⟨?_,?_,?_,?_,?_,?_,?_,?_,?_,?_,?_,?_,?_,?_,?_,?_,?_,?_,?_,?_,?_,trivial⟩
 ·refine ⟨⟨fun τ=>stableE_det _,leans_not⟩,?_⟩
  intro a w O hk
  have e6:a.eval (.tmp 6)=.pointer (some ⟨gc,0,none⟩):=(hk.init 6 (initialB_of_nw nw6)).trans hi6
  exact obE_run (wanted_none rfl) (by unfold execOp;simp only [];rw [e6];go_simp) rfl
 ·refine ⟨⟨fun τ=>stableE_det _,leans_not⟩,?_⟩
  intro a w O hk
  have e66:a.eval (.tmp 66)=.pointer (some ⟨gc,0,none⟩):=hk.fact 0 _ 66 rfl rfl rfl rfl
  have zz:=hk.world.still hZ (fun ⟨_,h⟩=>h.elim And.right And.right)
  obtain ⟨z0,z1,z2,z3,z4,z5,z6,z7,z8⟩:=row9 zz
  exact obE_run (wanted_none rfl) (by unfold execOp;simp only [];rw [e66];go_simp) rfl
 ·refine ⟨⟨fun τ=>stableE_det _,leans_not⟩,?_⟩
  intro a w O hk
  have e3:a.eval (.tmp 3)=.pointer (some ⟨g',0,none⟩):=(hk.init 3 (initialB_of_nw nw3)).trans hi3
  exact obE_run (wanted_none rfl) (by unfold execOp;simp only [];rw [e3];go_simp) rfl
 ·refine ⟨⟨fun τ=>stableE_det _,leans_not⟩,?_⟩
  intro a w O hk
  have e68:a.eval (.tmp 68)=.pointer (some ⟨g',20,none⟩):=hk.fact 2 _ 68 rfl rfl rfl rfl
  have zz:=hk.world.still hY (fun ⟨_,h⟩=>h.elim And.right And.right)
  obtain ⟨c0,c1,c2,c3,c4,c5,c6,c7,c8,c9,c10,c11,c12,c13,c14,c15,c16,c17,c18,c19,c20⟩:=row21 zz
  rw [hC,hm] at c20
  exact obE_run (wanted_none rfl) (by unfold execOp;simp only [];rw [e68];go_simp) rfl
 ·refine ⟨⟨fun τ=>stableE_det _,leans_not⟩,?_⟩
  intro a w O hk
  have e5:a.eval (.tmp 5)=.int .i64 i:=(hk.init 5 (initialB_of_nw nw5)).trans hi5
  exact toE (ob_move rfl e5 (wanted_none rfl) rfl)
 ·refine ⟨⟨fun τ=>stableE_det _,leans_not⟩,?_⟩
  intro a w O hk
  have e69:a.eval (.tmp 69)=.slice (some ⟨gd,od,none⟩) m P2.e:=hk.fact 3 _ 69 rfl rfl rfl rfl
  have e70:a.eval (.tmp 70)=.int .i64 i:=hk.fact 4 _ 70 rfl rfl rfl rfl
  exact obE_run (wanted_none rfl) (by unfold execOp;simp only [];rw [e69,e70];go_simp) rfl
 ·refine ⟨⟨fun τ=>stableE_det _,leans_not⟩,?_⟩
  intro a w O hk
  have e71:a.eval (.tmp 71)=.pointer (some ⟨gd,od+i * 9,none⟩):=hk.fact 5 _ 71 rfl rfl rfl rfl
  exact obE_run (wanted_none rfl) (by unfold execOp;simp only [];rw [e71];go_simp) rfl
 ·refine ⟨⟨fun τ=>stableE_det _,leans_not⟩,?_⟩
  intro a w O hk
  have e72:a.eval (.tmp 72)=.pointer (some ⟨gd,od+i * 9,none⟩):=hk.fact 6 _ 72 rfl rfl rfl rfl
  have hcd:∀ j,w.cell? ⟨gd,j,none⟩=w0.cell? ⟨gd,j,none⟩:=fun j=>cell_same ((hk.world.below (fun k ⟨_,h⟩=>h.elim (fun h=>h.2.elim) fun h=>h.2.elim) (Nat.le_refl _)).block _ hgd)
  have r0:=(hcd _).trans cb0
  exact obE_run (wanted_none rfl) (by unfold execOp;simp only [];rw [e72];go_simp) rfl
 ·refine ⟨⟨fun τ=>stableE_det _,leans_not⟩,?_⟩
  intro a w O hk
  have e67:a.eval (.tmp 67)=.string c.nm:=hk.fact 1 _ 67 rfl rfl rfl rfl
  have e73:a.eval (.tmp 73)=.string c.nm:=hk.fact 7 _ 73 rfl rfl rfl rfl
  exact obE_run (wanted_none rfl) (by unfold execOp;simp only [];rw [e67,e73];go_simp) rfl
 ·refine ⟨⟨fun τ=>stableE_det _,leans_not⟩,?_⟩
  intro a w O hk
  have e74:a.eval (.tmp 74)=.bool false:=hk.fact 8 _ 74 rfl rfl rfl rfl
  exact toE (ob_move rfl e74 (wanted_none rfl) rfl)
 ·refine ⟨⟨fun τ=>stableE_det _,leans_not⟩,?_⟩
  intro a w O hk
  have e6:a.eval (.tmp 6)=.pointer (some ⟨gc,0,none⟩):=(hk.init 6 (initialB_of_nw nw6)).trans hi6
  have e75:a.eval (.tmp 75)=.bool false:=hk.fact 9 _ 75 rfl rfl rfl rfl
  exact obE_run (wanted_of rfl rfl rfl e75) (by unfold execOp;simp only [];rw [e6];go_simp) rfl
 ·refine ⟨⟨fun τ=>stableE_det _,leans_not⟩,?_⟩
  intro a w O hk
  have e76:a.eval (.tmp 76)=.pointer (some ⟨gc,1,none⟩):=hk.fact 10 _ 76 rfl rfl rfl rfl
  have e75:a.eval (.tmp 75)=.bool false:=hk.fact 9 _ 75 rfl rfl rfl rfl
  have zz:=hk.world.still hZ (fun ⟨_,h⟩=>h.elim And.right And.right)
  obtain ⟨z0,z1,z2,z3,z4,z5,z6,z7,z8⟩:=row9 zz
  exact obE_run (wanted_of rfl rfl rfl e75) (by unfold execOp;simp only [];rw [e76];unfold tmV;go_simp) rfl
 ·refine ⟨⟨fun τ=>stableE_det _,leans_not⟩,?_⟩
  intro a w O hk
  have e3:a.eval (.tmp 3)=.pointer (some ⟨g',0,none⟩):=(hk.init 3 (initialB_of_nw nw3)).trans hi3
  have e75:a.eval (.tmp 75)=.bool false:=hk.fact 9 _ 75 rfl rfl rfl rfl
  exact obE_run (wanted_of rfl rfl rfl e75) (by unfold execOp;simp only [];rw [e3];go_simp) rfl
 ·refine ⟨⟨fun τ=>stableE_det _,leans_not⟩,?_⟩
  intro a w O hk
  have e78:a.eval (.tmp 78)=.pointer (some ⟨g',20,none⟩):=hk.fact 12 _ 78 rfl rfl rfl rfl
  have e75:a.eval (.tmp 75)=.bool false:=hk.fact 9 _ 75 rfl rfl rfl rfl
  have zz:=hk.world.still hY (fun ⟨_,h⟩=>h.elim And.right And.right)
  obtain ⟨c0,c1,c2,c3,c4,c5,c6,c7,c8,c9,c10,c11,c12,c13,c14,c15,c16,c17,c18,c19,c20⟩:=row21 zz
  rw [hC,hm] at c20
  exact obE_run (wanted_of rfl rfl rfl e75) (by unfold execOp;simp only [];rw [e78];go_simp) rfl
 ·refine ⟨⟨fun τ=>stableE_det _,leans_not⟩,?_⟩
  intro a w O hk
  have e5:a.eval (.tmp 5)=.int .i64 i:=(hk.init 5 (initialB_of_nw nw5)).trans hi5
  have e75:a.eval (.tmp 75)=.bool false:=hk.fact 9 _ 75 rfl rfl rfl rfl
  exact toE (ob_move rfl e5 (wanted_of rfl rfl rfl e75) rfl)
 ·refine ⟨⟨fun τ=>stableE_det _,leans_not⟩,?_⟩
  intro a w O hk
  have e79:a.eval (.tmp 79)=.slice (some ⟨gd,od,none⟩) m P2.e:=hk.fact 13 _ 79 rfl rfl rfl rfl
  have e80:a.eval (.tmp 80)=.int .i64 i:=hk.fact 14 _ 80 rfl rfl rfl rfl
  have e75:a.eval (.tmp 75)=.bool false:=hk.fact 9 _ 75 rfl rfl rfl rfl
  exact obE_run (wanted_of rfl rfl rfl e75) (by unfold execOp;simp only [];rw [e79,e80];go_simp) rfl
 ·refine ⟨⟨fun τ=>stableE_det _,leans_not⟩,?_⟩
  intro a w O hk
  have e81:a.eval (.tmp 81)=.pointer (some ⟨gd,od+i * 9,none⟩):=hk.fact 15 _ 81 rfl rfl rfl rfl
  have e75:a.eval (.tmp 75)=.bool false:=hk.fact 9 _ 75 rfl rfl rfl rfl
  exact obE_run (wanted_of rfl rfl rfl e75) (by unfold execOp;simp only [];rw [e81];go_simp) rfl
 ·refine ⟨⟨fun τ=>stableE_det _,leans_not⟩,?_⟩
  intro a w O hk
  have e82:a.eval (.tmp 82)=.pointer (some ⟨gd,od+i * 9+1,none⟩):=hk.fact 16 _ 82 rfl rfl rfl rfl
  have e75:a.eval (.tmp 75)=.bool false:=hk.fact 9 _ 75 rfl rfl rfl rfl
  have hcd:∀ j,w.cell? ⟨gd,j,none⟩=w0.cell? ⟨gd,j,none⟩:=fun j=>cell_same ((hk.world.below (fun k ⟨_,h⟩=>h.elim (fun h=>h.2.elim) fun h=>h.2.elim) (Nat.le_refl _)).block _ hgd)
  have r1:=(hcd _).trans cb1
  have r2:=(hcd _).trans cb2
  have r3:=(hcd _).trans cb3
  have r4:=(hcd _).trans cb4
  have r5:=(hcd _).trans cb5
  have r6:=(hcd _).trans cb6
  have r7:=(hcd _).trans cb7
  have r8:=(hcd _).trans cb8
  exact obE_run (wanted_of rfl rfl rfl e75) (by unfold execOp;simp only [];rw [e82];unfold tmV;go_simp) rfl
 ·refine ⟨⟨fun τ=>stableE_det _,leans_not⟩,?_⟩
  intro a w O hk
  have e77:a.eval (.tmp 77)=tmV p c.ty:=hk.fact 11 _ 77 rfl rfl rfl rfl
  have e83:a.eval (.tmp 83)=tmV q c.ty:=hk.fact 17 _ 83 rfl rfl rfl rfl
  have e75:a.eval (.tmp 75)=.bool false:=hk.fact 9 _ 75 rfl rfl rfl rfl
  exact obE_callV #[tmV p c.ty,tmV q c.ty] rfl rfl rfl rfl (by simp only [List.map_cons,List.map_nil];rw [e77,e83]) (wanted_of rfl rfl rfl e75) (tEqual_self c.ty hok.1 hok.2 p q w (TmS.all (TmIn.stay hi1 (hk.world.below (fun k ⟨_,h⟩=>h.elim (fun h=>h.2.elim) fun h=>h.2.elim) (Nat.le_refl _)))) (TmS.all (TmIn.stay hi2 (hk.world.below (fun k ⟨_,h⟩=>h.elim (fun h=>h.2.elim) fun h=>h.2.elim) (Nat.le_refl _)))))
 ·refine ⟨⟨fun τ=>stableE_det _,leans_not⟩,?_⟩
  intro a w O hk
  have e84:a.eval (.tmp 84)=.bool true:=hk.fact 18 _ 84 rfl rfl rfl rfl
  have e75:a.eval (.tmp 75)=.bool false:=hk.fact 9 _ 75 rfl rfl rfl rfl
  exact obE_run (wanted_of rfl rfl rfl e75) (by unfold execOp;simp only [];rw [e84];go_simp) rfl
 ·refine ⟨⟨fun τ=>stableE_det _,leans_not⟩,?_⟩
  intro a w O hk
  have e75:a.eval (.tmp 75)=.bool false:=hk.fact 9 _ 75 rfl rfl rfl rfl
  have e85:a.eval (.tmp 85)=.bool false:=hk.fact 19 _ 85 rfl rfl rfl rfl
  exact toE (ob_pick rfl e75 e85 (wanted_none rfl) rfl)
set_option maxRecDepth 100000 in
set_option maxHeartbeats 8000000 in
theorem deq6_region {Q:Exit→Act→World→Prop} {id:Nat} (w0:World) (g' gc i:Nat) (d:Dc) (P2:DPl) (c:Ct) (p q:Pl) (gd od m:Nat) {s0 s1 s2 s4 s7 s8 s9 s10 s11 s12 s13 s14 s15 s16 s17 s18 s19 s20 s21 s22 s23 s24 s25 s26 s27 s28 s29 s30 s31 s32 s33 s34 s35 s36 s37 s38 s39 s40 s41 s42 s43 s44 s45 s46 s47 s48 s49 s50 s51 s52 s53 s54 s55 s56 s57 s58 s59 s60 s61 s62 s63 s64 s65 s66 s67 s68 s69 s70 s71 s72 s73 s74 s75 s76 s77 s78 s79 s80 s81 s82 s83 s84 s85 s86 s87:Value} (hY:w0.heap[g']?=some (dcO P2 d)) (hZ:w0.heap[gc]?=some (ctO p c)) (hC:P2.C=some ⟨gd,od,none⟩) (hm:d.cs.length=m) (hgd:gd<w0.heap.size) (him:i<m) (hm9:m≤9223372036854775807) (cb0:w0.cell? ⟨gd,od+i * 9,none⟩=some (.string c.nm)) (cb1:w0.cell? ⟨gd,od+i * 9+1,none⟩=some (.int .i64 c.ty.kind)) (cb2:w0.cell? ⟨gd,od+i * 9+1+1,none⟩=some (.int .i64 c.ty.num)) (cb3:w0.cell? ⟨gd,od+i * 9+1+2,none⟩=some (.string c.ty.name)) (cb4:w0.cell? ⟨gd,od+i * 9+1+3,none⟩=some (.int .i64 c.ty.lv.kind)) (cb5:w0.cell? ⟨gd,od+i * 9+1+4,none⟩=some (.int .i64 c.ty.lv.num)) (cb6:w0.cell? ⟨gd,od+i * 9+1+5,none⟩=some (.slice q.A c.ty.lv.kids.length q.c)) (cb7:w0.cell? ⟨gd,od+i * 9+1+6,none⟩=some (.slice q.B c.ty.ls.length q.d)) (cb8:w0.cell? ⟨gd,od+i * 9+1+7,none⟩=some (.slice q.K c.ty.kids.length q.e)) (hi1:TmIn w0 w0.heap.size p c.ty) (hi2:TmIn w0 w0.heap.size q c.ty) (hok:TqOk c.ty)
  (hend:∀ (w':World),Chg (fun k=>False∨False) w0 w'→Q .normal { tmps:=(s0 :: s1 :: s2 :: (.pointer (some ⟨g',0,none⟩)) :: s4 :: (.int .i64 i) :: (.pointer (some ⟨gc,0,none⟩)) :: s7 :: s8 :: s9 :: s10 :: s11 :: s12 :: s13 :: s14 :: s15 :: s16 :: s17 :: s18 :: s19 :: s20 :: s21 :: s22 :: s23 :: s24 :: s25 :: s26 :: s27 :: s28 :: s29 :: s30 :: s31 :: s32 :: s33 :: s34 :: s35 :: s36 :: s37 :: s38 :: s39 :: s40 :: s41 :: s42 :: s43 :: s44 :: s45 :: s46 :: s47 :: s48 :: s49 :: s50 :: s51 :: s52 :: s53 :: s54 :: s55 :: s56 :: s57 :: s58 :: s59 :: s60 :: s61 :: s62 :: s63 :: s64 :: s65 :: (.pointer (some ⟨gc,0,none⟩)) :: (.string c.nm) :: (.pointer (some ⟨g',20,none⟩)) :: (.slice (some ⟨gd,od,none⟩) m P2.e) :: (.int .i64 i) :: (.pointer (some ⟨gd,od+i * 9,none⟩)) :: (.pointer (some ⟨gd,od+i * 9,none⟩)) :: (.string c.nm) :: (.bool false) :: (.bool false) :: (.pointer (some ⟨gc,1,none⟩)) :: (tmV p c.ty) :: (.pointer (some ⟨g',20,none⟩)) :: (.slice (some ⟨gd,od,none⟩) m P2.e) :: (.int .i64 i) :: (.pointer (some ⟨gd,od+i * 9,none⟩)) :: (.pointer (some ⟨gd,od+i * 9+1,none⟩)) :: (tmV q c.ty) :: (.bool true) :: (.bool false) :: (.bool false) :: s87 :: []:List Value).toArray,defers:=[] } w') :
  (Code.region id deq6_ops.toArray true).wp Try.prog Q { tmps:=(s0 :: s1 :: s2 :: (.pointer (some ⟨g',0,none⟩)) :: s4 :: (.int .i64 i) :: (.pointer (some ⟨gc,0,none⟩)) :: s7 :: s8 :: s9 :: s10 :: s11 :: s12 :: s13 :: s14 :: s15 :: s16 :: s17 :: s18 :: s19 :: s20 :: s21 :: s22 :: s23 :: s24 :: s25 :: s26 :: s27 :: s28 :: s29 :: s30 :: s31 :: s32 :: s33 :: s34 :: s35 :: s36 :: s37 :: s38 :: s39 :: s40 :: s41 :: s42 :: s43 :: s44 :: s45 :: s46 :: s47 :: s48 :: s49 :: s50 :: s51 :: s52 :: s53 :: s54 :: s55 :: s56 :: s57 :: s58 :: s59 :: s60 :: s61 :: s62 :: s63 :: s64 :: s65 :: s66 :: s67 :: s68 :: s69 :: s70 :: s71 :: s72 :: s73 :: s74 :: s75 :: s76 :: s77 :: s78 :: s79 :: s80 :: s81 :: s82 :: s83 :: s84 :: s85 :: s86 :: s87 :: []:List Value).toArray,defers:=[] } w0:=by
 refine wp_region_est (by kernel_rfl) (est2 0 0 (fun _=>False) (fun _=>False)) deq6_C (deq6_F w0 g' gc i d P2 c p q gd od m) (est2_dis (fun _ h _=>h)) (est2_range (fun _ h=>h.elim) (fun _ h=>h.elim)) (by rfl) (by kernel_rfl) (deq6_obs w0.drew g' gc i d P2 c p q gd od m hY hZ hC hm hgd him hm9 cb0 cb1 cb2 cb3 cb4 cb5 cb6 cb7 cb8 (TmS.same hi1 (fun _ _ _=>rfl)) (TmS.same hi2 (fun _ _ _=>rfl)) hok _ _ rfl rfl rfl) ?_
 intro a w' O hd hs hb hf hf2 ha hsame
 have hl:=slots_eq (ops:=deq6_ops.toArray) [(66,.pointer (some ⟨gc,0,none⟩)),(67,.string c.nm),(68,.pointer (some ⟨g',20,none⟩)),(69,.slice (some ⟨gd,od,none⟩) m P2.e),(70,.int .i64 i),(71,.pointer (some ⟨gd,od+i * 9,none⟩)),(72,.pointer (some ⟨gd,od+i * 9,none⟩)),(73,.string c.nm),(74,.bool false),(75,.bool false),(76,.pointer (some ⟨gc,1,none⟩)),(77,tmV p c.ty),(78,.pointer (some ⟨g',20,none⟩)),(79,.slice (some ⟨gd,od,none⟩) m P2.e),(80,.int .i64 i),(81,.pointer (some ⟨gd,od+i * 9,none⟩)),(82,.pointer (some ⟨gd,od+i * 9+1,none⟩)),(83,tmV q c.ty),(84,.bool true),(85,.bool false),(86,.bool false)] (show a.tmps.size=88 from hs) (fun i h=>hsame i h) ⟨(hf 0 _ 66 rfl rfl (by decide)).1,(hf 1 _ 67 rfl rfl (by decide)).1,(hf 2 _ 68 rfl rfl (by decide)).1,(hf 3 _ 69 rfl rfl (by decide)).1,(hf 4 _ 70 rfl rfl (by decide)).1,(hf 5 _ 71 rfl rfl (by decide)).1,(hf 6 _ 72 rfl rfl (by decide)).1,(hf 7 _ 73 rfl rfl (by decide)).1,(hf 8 _ 74 rfl rfl (by decide)).1,(hf 9 _ 75 rfl rfl (by decide)).1,(hf 10 _ 76 rfl rfl (by decide)).1,(hf 11 _ 77 rfl rfl (by decide)).1,(hf 12 _ 78 rfl rfl (by decide)).1,(hf 13 _ 79 rfl rfl (by decide)).1,(hf 14 _ 80 rfl rfl (by decide)).1,(hf 15 _ 81 rfl rfl (by decide)).1,(hf 16 _ 82 rfl rfl (by decide)).1,(hf 17 _ 83 rfl rfl (by decide)).1,(hf 18 _ 84 rfl rfl (by decide)).1,(hf 19 _ 85 rfl rfl (by decide)).1,(hf 20 _ 86 rfl rfl (by decide)).1,trivial⟩ (by kernel_rfl)
 obtain ⟨tmps,defers⟩:=a
 obtain rfl:defers=[]:=hd
 have hl':tmps=_:=hl
 rw [hl']
 have hb':=est2_chg hb
 refine Eq.mp ?_ (hend w' ⟨hb'.os,hb'.tape,hb'.output,hb'.size,hb'.block⟩)
 kernel_rfl

end Go.Proofs.Ytcgkeolgflphiaa

namespace Go.Proofs.Ytcgkeolgflphiaa
open Go.RowKit Go.Proofs.YtcgkeolgflphiaaW.PrintWords Go.RegionInvYtcgkeolgflphiaa Go.RegionEYtcgkeolgflphiaa

set_option maxRecDepth 100000 in
set_option maxHeartbeats 4000000 in
theorem dEqual_self (d:Dc) (hok:DqOk d) (P Q:DPl) (w:World) (hin:DcIn w w.heap.size P d) (hin2:DcIn w w.heap.size Q d) :
  Calls Try.prog 23 #[dcV P d,dcV Q d] w fun e w'=>e=.returned (.bool true)∧Below w.heap.size w w':=by
 have HOK:=Ak hok
 have HIN:=Ak hin
 have HIN2:=Ak hin2
 obtain ⟨W,hW⟩:∃ W,W=(w.alloc (dcO P d)).alloc (dcO Q d):=⟨_,rfl⟩
 have hb:Below w.heap.size w W:=by rw [hW];exact below_alloc (below_alloc (Below.refl _ _) _) _
 have HX:=Ak (show W.heap[w.heap.size]?=some (dcO P d) by rw [hW];exact box0 w _ _)
 have HY:=Ak (show W.heap[w.heap.size+1]?=some (dcO Q d) by rw [hW];exact box1 w _ _)
 have HB:=Ak hb
 obtain ⟨M,hM⟩:∃ M,d.cs.length=M:=⟨_,rfl⟩
 have HM:=Ak hM
 have hm9:M≤9223372036854775807:=by rw [← hM];exact Nat.le_trans hin.len.1 hin.len.2
 clear hok hin hin2 hb hM
 unfold dcV
 unfold dcO at hW
 go_enter Try.func23,Try.ntmps23
 go_upto_region 1 with (fail)
 rw [← hW]
 clear hW
 refine deq1_region W w.heap.size (w.heap.size+1) d P Q HX.out HY.out (DcS.all (DcIn.stay HIN.out HB.out)) (DcS.all (DcIn.stay HIN2.out HB.out)) HOK.out ?_
 intro w1 hch
 have hb1:Below W.heap.size W w1:=hch.below (fun _ h=>h.elim False.elim False.elim) (Nat.le_refl _)
 have HB1:=Ak (below_then HB.out HB.out.size hb1)
 have HX1:=Ak ((hb1.block _ (blk_lt HX.out)).trans HX.out)
 have HY1:=Ak ((hb1.block _ (blk_lt HY.out)).trans HY.out)
 rw [HM.out]
 clear hch hb1 HX HY
 obtain ⟨-,-,-,-,-,-,-,-,-,-,-,-,-,-,-,-,-,-,-,-,c20⟩:=row21 HX1.out
 rw [HM.out] at c20
 go_wp2
 clear c20
 go_loopw [61] (fun i wr=>∃ k:Nat,i=.int .i64 k∧k≤M∧Aside0 (Below w1.heap.size w1 wr)) (fun i _=>M - (intOf i).toNat)
 case atStart=>exact ⟨0,rfl,Nat.zero_le _,⟨Below.refl _ _⟩⟩
 case round =>
  obtain ⟨k,rfl,hk,HBR⟩:=hrel
  by_cases hlk:k<M
  ·obtain ⟨c,hc⟩:∃ c,d.cs[k]?=some c:=⟨_,List.getElem?_eq_getElem (by rw [HM.out];exact hlk)⟩
   have HBA:=Ak (below_then HB1.out HB1.out.size HBR.out)
   obtain ⟨⟨ga,oa,hpC,hga,hca⟩,hxin,-⟩:=(DcIn.stay HIN.out HBA.out).ct k c hc
   obtain ⟨⟨gd,od,hqC,hgd,hcb⟩,hyin,-⟩:=(DcIn.stay HIN2.out HBA.out).ct k c hc
   have HSX:=Ak (HOK.out.cs c (List.mem_of_getElem? hc))
   have HYR:=Ak ((HBR.out.block _ (blk_lt HY1.out)).trans HY1.out)
   have HXI:=Ak (TmS.all hxin)
   have HYI:=Ak (TmS.all hyin)
   obtain ⟨p,hp⟩:∃ p,P.q k=p:=⟨_,rfl⟩
   rw [hp] at hca HXI
   have a0:wr.cell? ⟨ga,oa+k * 9,none⟩=some (.string c.nm):=hca 0 _ rfl
   have a1:=hca 1 _ rfl
   have a2:=hca 2 _ rfl
   have a3:=hca 3 _ rfl
   have a4:=hca 4 _ rfl
   have a5:=hca 5 _ rfl
   have a6:=hca 6 _ rfl
   have a7:=hca 7 _ rfl
   have a8:=hca 8 _ rfl
   have hpA:=hpC
   rw [hpC]
   clear hxin hyin hp hc hca
   go_upto_region 6 with (fail)
   have hzr:=HBA.out.size
   have hbx:=blk_new wr (ctO p c)
   have hb5:=below_alloc (Below.refl wr.heap.size wr) (ctO p c)
   have cb:=fun (j:Nat) (v:Value) (h:(ctC (Q.q k) c)[j]?=some v)=>(cell_same (hb5.block gd (by omega))).trans (hcb j v h)
   have hya:=(hb5.block _ (blk_lt HYR.out)).trans HYR.out
   have hi1:=TmS.all (TmIn.stay HXI.out hb5)
   have hi2:=TmS.all (TmIn.stay HYI.out hb5)
   have hz5:=hb5.size
   refine deq6_region (wr.alloc (ctO p c)) (w.heap.size+1) wr.heap.size k d Q c p (Q.q k) gd od M hya hbx hqC HM.out (by omega) hlk hm9 (cb 0 _ rfl) (cb 1 _ rfl) (cb 2 _ rfl) (cb 3 _ rfl) (cb 4 _ rfl) (cb 5 _ rfl) (cb 6 _ rfl) (cb 7 _ rfl) (cb 8 _ rfl) hi1 hi2 HSX.out ?_
   intro w5 hch
   have HB5:=Ak (Below.trans (Below.trans HBR.out (hb5.mono HBR.out.size)) ((hch.below (fun _ h=>h.elim False.elim False.elim) (Nat.le_refl _)).mono (Nat.le_trans HBR.out.size hz5)))
   clear hch hbx hb5 cb hya hi1 hi2 hz5 hcb a0 a1 a2 a3 a4 a5 a6 a7 a8 hpA hqC
   go_wp2
   go_roundw
   case rel=>exact ⟨k+1,by go_num,by omega,HB5⟩
   case measure=>(simp [intOf];try omega)
  ·obtain rfl:k=M:=by omega
   have hlt':decide ((k:Int)<k)=false:=by simp
   have HFN:=Ak (below_then HB1.out HB1.out.size HBR.out)
   go_wp2
   go_ret
   exact ⟨rfl,HFN.out⟩
end Go.Proofs.Ytcgkeolgflphiaa

namespace Go.Proofs.Ytcgkeolgflphiaa
open Go.RowKit Go.Proofs.YtcgkeolgflphiaaW.PrintWords Go.RegionInvYtcgkeolgflphiaa

namespace FinA
def maxK (t:Tm) (xs:List (Fin (nK t))):Nat:=(xs.map fun i=>depthT (kidF t i)).foldr max 0
def sumK (t:Tm) (xs:List (Fin (nK t))):Nat:=(xs.map fun i=>sizeT (kidF t i)).sum
theorem depth_eq (t:Tm):depthT t=1+maxK t (List.finRange (nK t)):=by rw [depthT];rfl
theorem size_eq (t:Tm):sizeT t=1+sumK t (List.finRange (nK t)):=by rw [sizeT];rfl
inductive Fine:Tm→Prop
 | mk {t:Tm} (ha:(t.kids.length:Int)=arZ t.kind) (hn:t.kind=1→0≤t.num∧t.num≤1048576) (hk:∀ i:Fin (nK t),Fine (kidF t i)):Fine t
theorem Fine.num {t:Tm} (h:Fine t):t.kind=1→0≤t.num∧t.num≤1048576:=by cases h;assumption
theorem mn_num0 {v:Int} {t:Tm} (h:mnP v t=0) (h1:t.kind=1):0≤t.num∧t.num≤1048576:=by
 have ha:=mn_arity h
 refine Classical.byContradiction fun hn=>?_
 rw [mn_num ha ⟨h1,by omega⟩] at h
 cases h
theorem may_fine (v:Int) (N:Nat):∀ (t:Tm),SizeOf.sizeOf t<N→∀ (d b n:Int),(foldP (mtF v) t d b (n,0)).1=true →
  Fine t∧d+depthT t≤65∧n+sizeT t≤400∧(foldP (mtF v) t d b (n,0)).2=(n+sizeT t,0):=by
 induction N with
 | zero=>intro t h;omega
 | succ N ih =>
  intro t hN d b n h
  by_cases hl:64<d∨400<n+1
  ·rw [mt_long hl] at h;cases h
  ·by_cases hm:mnP v t=0
   ·rw [mt_go hl hm] at h ⊢
    have key:∀ (xs:List (Fin (nK t))) (n:Int),(runL (kidsM v t d b) xs (n,0)).1=true →
      (∀ x∈xs,Fine (kidF t x)∧d+1+depthT (kidF t x)≤65)∧(n≤400→n+sumK t xs≤400)∧(runL (kidsM v t d b) xs (n,0)).2=(n+sumK t xs,0):=by
     intro xs
     induction xs with
     | nil =>
      intro n _
      refine ⟨(fun x hx=>by cases hx),(fun h=>by simp [sumK];omega),?_⟩
      refine Prod.ext ?_ rfl
      show n=n+((sumK t []:Nat):Int)
      simp [sumK]
     | cons x r ihr =>
      intro n hm
      rw [runL] at hm ⊢
      by_cases hc:(kidsM v t d b x (n,0)).1=true
      ·rw [if_pos hc] at hm ⊢
       have h4:=ih (kidF t x) (by have:=kidF_lt t x;omega) (d+1) (b+moreZ t x) n hc
       have h42:(kidsM v t d b x (n,0)).2=(n+sizeT (kidF t x),0):=h4.2.2.2
       rw [h42] at hm ⊢
       have h5:=ihr _ hm
       have e1:sumK t (x :: r)=sizeT (kidF t x)+sumK t r:=by unfold sumK;rw [List.map_cons,List.sum_cons]
       refine ⟨fun y hy=>?_,fun hn=>?_,?_⟩
       ·rcases List.mem_cons.1 hy with rfl | hy
        ·exact ⟨h4.1,h4.2.1⟩
        ·exact h5.1 y hy
       ·have:=h5.2.1 h4.2.2.1;rw [e1];push_cast;omega
       ·rw [h5.2.2,e1]
        refine Prod.ext ?_ rfl
        show n+(sizeT (kidF t x):Int)+(sumK t r:Int)=n+((sizeT (kidF t x)+sumK t r:Nat):Int)
        push_cast
        omega
      ·rw [if_neg hc] at hm;cases hm
    have h2:=key _ _ h
    have hd:d+depthT t≤65:=by
     rw [depth_eq]
     have:maxK t (List.finRange (nK t))≤(64 - d).toNat:=by
      refine max_le_of fun x hx=>?_
      obtain ⟨i,hi,rfl⟩:=List.mem_map.1 hx
      have:=(h2.1 i hi).2
      omega
     omega
    have h4:=h2.2.1 (by omega)
    refine ⟨.mk (mn_arity hm) (mn_num0 hm) fun i=>(h2.1 i (List.mem_finRange i)).1,hd,by rw [size_eq];push_cast;omega,?_⟩
    rw [h2.2.2,size_eq]
    refine Prod.ext ?_ rfl
    show n+1+(sumK t (List.finRange (nK t)):Int)=n+((1+sumK t (List.finRange (nK t)):Nat):Int)
    push_cast
    omega
   ·rw [mt_stop hl rfl hm] at h;cases h
theorem may_ok {v:Int} {t:Tm} (h:mayT v t=0):Fine t∧depthT t≤64∧sizeT t≤400:=by
 have h1:=(mt_true v _ t (Nat.lt_succ_self _) 1 0 (0,0)).2 h
 have h2:=may_fine v _ t (Nat.lt_succ_self _) 1 0 0 h1
 exact ⟨h2.1,by omega,by omega⟩
end FinA
end Go.Proofs.Ytcgkeolgflphiaa

namespace Go.Proofs.Ytcgkeolgflphiaa
open Go.RowKit Go.Proofs.YtcgkeolgflphiaaW.PrintWords Go.RegionInvYtcgkeolgflphiaa

theorem tq_may {v:Int} (hv:v≤1048576) {t:Tm} (h:mayT v t=0) (hc:tcan t=t):TqOk t:=by
 have h1:=mayT_fit hv h
 have h2:=FinA.may_ok h
 exact ⟨eqOk_of 64 h1.1 hc,by unfold okT;omega⟩
theorem tq_noT:TqOk noT:=by
 refine ⟨.mk (by show sz (.mk 0 0 [])≤5000;rw [sz_mk,szs_nil];omega) (fun x hx=>by cases hx) fun x hx=>(by cases hx),?_⟩
 have h1:=FinA.size_eq noT
 have h2:=FinA.depth_eq noT
 have e:List.finRange (nK noT)=[]:=rfl
 rw [e] at h1 h2
 unfold okT
 rw [h1,h2]
 decide
theorem mayCs_mem {v:Int}:∀ {cs:List Ct},mayCs v cs=0→∀ c∈cs,mayT v c.ty=0
 | [],_,c,hc=>by cases hc
 | x :: r,h,c,hc=>by
  unfold mayCs at h
  split at h
  ·exact absurd h (by decide)
  ·split at h
   ·rename_i h2;exact absurd h h2
   ·rename_i h2
    rcases List.mem_cons.1 hc with rfl | hc
    ·exact Classical.not_not.1 h2
    ·exact mayCs_mem h c hc
theorem map_fix {α:Type} {f:α→α} {l:List α} (h:l.map f=l):∀ x∈l,f x=x:=by
 intro x hx
 obtain ⟨i,hi,rfl⟩:=List.getElem_of_mem hx
 have h1:(l.map f)[i]'(by simpa using hi)=l[i]:=by simp only [h]
 simpa using h1
theorem dq_may {d:Dc} (h:mayD d=0) (hc:dcan d=d):DqOk d:=by
 have hf:=mayD_fit h
 have hv:=hf.v
 obtain ⟨k,nm,v,t,x,p,cs⟩:=d
 unfold dcan at hc
 injection hc with e1 e2 e3 e4 e5 e6 e7
 dsimp only at e1 e2 e3 e4 e5 e6 e7 hv
 refine ⟨tq_may (show v≤1048576 by omega) hf.ty e4,?_,?_⟩
 ·show TqOk x
  by_cases k2:k=2
  ·rw [if_pos k2] at e5;exact tq_may (show v≤1048576 by omega) (hf.val k2) e5
  ·rw [if_neg k2] at e5;rw [← e5];exact tq_noT
 ·show ∀ c∈cs,TqOk c.ty
  by_cases k3:k=3
  ·rw [if_pos k3] at e7
   intro c hc
   have h1:=map_fix e7 c hc
   have h2:tcan c.ty=c.ty:=by have:=congrArg Ct.ty h1;exact this
   exact tq_may (show v≤1048576 by omega) (mayCs_mem (hf.ind k3).2.2 c hc) h2
  ·rw [if_neg k3] at e7;rw [← e7];intro c hc;cases hc
theorem dec_fix {xs:List Int} {d:Dc} (hB:Bytes xs) (h:decR xs=.ok d):mayD d=0∧dcan d=d:=by
 obtain ⟨h1,h2⟩:=dec_put hB h
 rw [h1,dec_get h2] at h
 injection h with h
 exact ⟨h2,h⟩
theorem dq_dz:DqOk ⟨0,⟨#[]⟩,0,noT,noT,0,[]⟩:=⟨tq_noT,tq_noT,fun c hc=>by cases hc⟩
end Go.Proofs.Ytcgkeolgflphiaa

namespace Go.Proofs.Ytcgkeolgflphiaa
open Go.RowKit Go.Proofs.YtcgkeolgflphiaaW.PrintWords Go.RegionInvYtcgkeolgflphiaa

theorem endz_ok {d:Dc} {er:Int} {xs:List Int} (hB:Bytes xs) (h:EndZ d er (decR xs)):DqOk d:=by
 cases hR:decR xs with
 | error k=>rw [hR] at h;obtain ⟨-,-,rfl⟩:=h;exact dq_dz
 | ok d'=>rw [hR] at h;obtain ⟨rfl,-⟩:=h;have:=dec_fix hB hR;exact dq_may this.1 this.2
theorem endz_eq {d d':Dc} {er er':Int} {R:Except Int Dc} (h:EndZ d er R) (h':EndZ d' er' R):d=d'∧er=er':=by
 cases R with
 | error k=>obtain ⟨rfl,-,rfl⟩:=h;obtain ⟨rfl,-,rfl⟩:=h';exact ⟨rfl,rfl⟩
 | ok y=>obtain ⟨rfl,rfl⟩:=h;obtain ⟨rfl,rfl⟩:=h';exact ⟨rfl,rfl⟩
set_option maxRecDepth 100000 in
set_option maxHeartbeats 8000000 in
theorem declDecodes_calls (A:Option Addr) (n c:Nat) (xs:List Int) (w:World) (h:Bs w w.heap.size A n c xs) :
  Calls Try.prog 5 #[.slice A n c] w fun e w'=>e=.returned (.bool true)∧Below w.heap.size w w':=by
 have HS:=Ak h
 have HBY:=Ak h.bytes
 clear h
 go_enter Try.func5,Try.ntmps5
 go_upto_region 2 with (first
  | (go_at_call 21;go_must (refine (decode_calls A n c xs _ HS.out).mono ?_;rintro e w2 ⟨P,d,er,rfl,hmem,hb,htk⟩;have HMEM:=Ak hmem;have HB2:=Ak hb;have HTK:=Ak htk;clear hmem hb htk;simp only [dcV]))
  | (refine wpList_store_row rfl 30 _ _ rfl (w2.heap.size) #[.int .i64 d.kind,.string d.nm,.int .i64 d.vars,.int .i64 d.ty.kind,.int .i64 d.ty.num,.string d.ty.name,.int .i64 d.ty.lv.kind,.int .i64 d.ty.lv.num,.slice P.pt.A d.ty.lv.kids.length P.pt.c,.slice P.pt.B d.ty.ls.length P.pt.d,.slice P.pt.K d.ty.kids.length P.pt.e,.int .i64 d.val.kind,.int .i64 d.val.num,.string d.val.name,.int .i64 d.val.lv.kind,.int .i64 d.val.lv.num,.slice P.pv.A d.val.lv.kids.length P.pv.c,.slice P.pv.B d.val.ls.length P.pv.d,.slice P.pv.K d.val.kids.length P.pv.e,.int .i64 d.params,.slice P.C d.cs.length P.e] rfl rfl 30 #[.int .i64 0,.string ⟨#[]⟩,.int .i64 0,.int .i64 0,.int .i64 0,.string ⟨#[]⟩,.int .i64 0,.int .i64 0,.slice none 0 0,.slice none 0 0,.slice none 0 0,.int .i64 0,.int .i64 0,.string ⟨#[]⟩,.int .i64 0,.int .i64 0,.slice none 0 0,.slice none 0 0,.slice none 0 0,.int .i64 0,.slice none 0 0] (blk_new _ _) (by kernel_rfl) rfl (all_one (l:=[.int .i64 d.kind,.string d.nm,.int .i64 d.vars,.int .i64 d.ty.kind,.int .i64 d.ty.num,.string d.ty.name,.int .i64 d.ty.lv.kind,.int .i64 d.ty.lv.num,.slice P.pt.A d.ty.lv.kids.length P.pt.c,.slice P.pt.B d.ty.ls.length P.pt.d,.slice P.pt.K d.ty.kids.length P.pt.e,.int .i64 d.val.kind,.int .i64 d.val.num,.string d.val.name,.int .i64 d.val.lv.kind,.int .i64 d.val.lv.num,.slice P.pv.A d.val.lv.kids.length P.pv.c,.slice P.pv.B d.val.ls.length P.pv.d,.slice P.pv.K d.val.kids.length P.pv.e,.int .i64 d.params,.slice P.C d.cs.length P.e]) rfl) ?_))
 have hbx:=dc_boxed w2 P d
 have HG3:=Ak hbx.1
 have HB3:=Ak (below_then HB2.out HB2.out.size hbx.2)
 have HM3:=Ak (HMEM.out.same fun k _ hk=>hbx.2.block k hk)
 obtain ⟨gx,hgx⟩:∃ gx,gx=w2.heap.size:=⟨_,rfl⟩
 obtain ⟨W3,hW3⟩:∃ W3,W3=(w2.alloc (.cells #[.int .i64 0,.string ⟨#[]⟩,.int .i64 0,.int .i64 0,.int .i64 0,.string ⟨#[]⟩,.int .i64 0,.int .i64 0,.slice none 0 0,.slice none 0 0,.slice none 0 0,.int .i64 0,.int .i64 0,.string ⟨#[]⟩,.int .i64 0,.int .i64 0,.slice none 0 0,.slice none 0 0,.slice none 0 0,.int .i64 0,.slice none 0 0] 30 (0,0))).setRow w2.heap.size #[.int .i64 d.kind,.string d.nm,.int .i64 d.vars,.int .i64 d.ty.kind,.int .i64 d.ty.num,.string d.ty.name,.int .i64 d.ty.lv.kind,.int .i64 d.ty.lv.num,.slice P.pt.A d.ty.lv.kids.length P.pt.c,.slice P.pt.B d.ty.ls.length P.pt.d,.slice P.pt.K d.ty.kids.length P.pt.e,.int .i64 d.val.kind,.int .i64 d.val.num,.string d.val.name,.int .i64 d.val.lv.kind,.int .i64 d.val.lv.num,.slice P.pv.A d.val.lv.kids.length P.pv.c,.slice P.pv.B d.val.ls.length P.pv.d,.slice P.pv.K d.val.kids.length P.pv.e,.int .i64 d.params,.slice P.C d.cs.length P.e]:=⟨_,rfl⟩
 replace HG3:Aside0 (W3.heap[w2.heap.size]?=some (dcO P d)):=by rw [hW3];exact HG3
 replace HB3:Aside0 (Below w.heap.size w W3):=by rw [hW3];exact HB3
 replace HM3:Aside0 (DcS W3 (fun b=>w.heap.size≤b) P d):=by rw [hW3];exact HM3
 rw [← hW3]
 rw [← hgx] at HG3 ⊢
 clear hgx hW3 hbx HMEM HB2
 go_upto_region 3 with (first
  | (go_at_call 22;go_must (refine (rdecode_calls A n c xs _ ((HS.out.chg (S:=fun k=>w.heap.size≤k) (Nat.le_refl _) (fun _ h=>h) (chg_of_base HB3.out)).mono HB3.out.size)).mono ?_;rintro e w4 ⟨P2,d2,er2,rfl,hmem,hb,htk⟩;have HMEM:=Ak hmem;have HB4:=Ak (below_then HB3.out HB3.out.size hb);have HG4:=Ak (blk_below HG3.out hb);have HM4:=Ak (HM3.out.same fun k _ hk=>hb.block k hk);have HEQ:=Ak (endz_eq HTK.out htk);clear hmem hb htk;simp only [dcV]))
  | (refine wpList_store_row rfl 30 _ _ rfl (w4.heap.size) #[.int .i64 d2.kind,.string d2.nm,.int .i64 d2.vars,.int .i64 d2.ty.kind,.int .i64 d2.ty.num,.string d2.ty.name,.int .i64 d2.ty.lv.kind,.int .i64 d2.ty.lv.num,.slice P2.pt.A d2.ty.lv.kids.length P2.pt.c,.slice P2.pt.B d2.ty.ls.length P2.pt.d,.slice P2.pt.K d2.ty.kids.length P2.pt.e,.int .i64 d2.val.kind,.int .i64 d2.val.num,.string d2.val.name,.int .i64 d2.val.lv.kind,.int .i64 d2.val.lv.num,.slice P2.pv.A d2.val.lv.kids.length P2.pv.c,.slice P2.pv.B d2.val.ls.length P2.pv.d,.slice P2.pv.K d2.val.kids.length P2.pv.e,.int .i64 d2.params,.slice P2.C d2.cs.length P2.e] rfl rfl 30 #[.int .i64 0,.string ⟨#[]⟩,.int .i64 0,.int .i64 0,.int .i64 0,.string ⟨#[]⟩,.int .i64 0,.int .i64 0,.slice none 0 0,.slice none 0 0,.slice none 0 0,.int .i64 0,.int .i64 0,.string ⟨#[]⟩,.int .i64 0,.int .i64 0,.slice none 0 0,.slice none 0 0,.slice none 0 0,.int .i64 0,.slice none 0 0] (blk_new _ _) (by kernel_rfl) rfl (all_one (l:=[.int .i64 d2.kind,.string d2.nm,.int .i64 d2.vars,.int .i64 d2.ty.kind,.int .i64 d2.ty.num,.string d2.ty.name,.int .i64 d2.ty.lv.kind,.int .i64 d2.ty.lv.num,.slice P2.pt.A d2.ty.lv.kids.length P2.pt.c,.slice P2.pt.B d2.ty.ls.length P2.pt.d,.slice P2.pt.K d2.ty.kids.length P2.pt.e,.int .i64 d2.val.kind,.int .i64 d2.val.num,.string d2.val.name,.int .i64 d2.val.lv.kind,.int .i64 d2.val.lv.num,.slice P2.pv.A d2.val.lv.kids.length P2.pv.c,.slice P2.pv.B d2.val.ls.length P2.pv.d,.slice P2.pv.K d2.val.kids.length P2.pv.e,.int .i64 d2.params,.slice P2.C d2.cs.length P2.e]) rfl) ?_))
 have hbx:=dc_boxed w4 P2 d2
 have HY5:=Ak hbx.1
 have HG5:=Ak (blk_below HG4.out hbx.2)
 have HB5:=Ak (below_then HB4.out HB4.out.size hbx.2)
 have HM5:=Ak (HM4.out.same fun k _ hk=>hbx.2.block k hk)
 have HN5:=Ak (HMEM.out.same fun k _ hk=>hbx.2.block k hk)
 obtain ⟨gy,hgy⟩:∃ gy,gy=w4.heap.size:=⟨_,rfl⟩
 obtain ⟨W5,hW5⟩:∃ W5,W5=(w4.alloc (.cells #[.int .i64 0,.string ⟨#[]⟩,.int .i64 0,.int .i64 0,.int .i64 0,.string ⟨#[]⟩,.int .i64 0,.int .i64 0,.slice none 0 0,.slice none 0 0,.slice none 0 0,.int .i64 0,.int .i64 0,.string ⟨#[]⟩,.int .i64 0,.int .i64 0,.slice none 0 0,.slice none 0 0,.slice none 0 0,.int .i64 0,.slice none 0 0] 30 (0,0))).setRow w4.heap.size #[.int .i64 d2.kind,.string d2.nm,.int .i64 d2.vars,.int .i64 d2.ty.kind,.int .i64 d2.ty.num,.string d2.ty.name,.int .i64 d2.ty.lv.kind,.int .i64 d2.ty.lv.num,.slice P2.pt.A d2.ty.lv.kids.length P2.pt.c,.slice P2.pt.B d2.ty.ls.length P2.pt.d,.slice P2.pt.K d2.ty.kids.length P2.pt.e,.int .i64 d2.val.kind,.int .i64 d2.val.num,.string d2.val.name,.int .i64 d2.val.lv.kind,.int .i64 d2.val.lv.num,.slice P2.pv.A d2.val.lv.kids.length P2.pv.c,.slice P2.pv.B d2.val.ls.length P2.pv.d,.slice P2.pv.K d2.val.kids.length P2.pv.e,.int .i64 d2.params,.slice P2.C d2.cs.length P2.e]:=⟨_,rfl⟩
 replace HY5:Aside0 (W5.heap[w4.heap.size]?=some (dcO P2 d2)):=by rw [hW5];exact HY5
 replace HG5:Aside0 (W5.heap[gx]?=some (dcO P d)):=by rw [hW5];exact HG5
 replace HB5:Aside0 (Below w.heap.size w W5):=by rw [hW5];exact HB5
 replace HM5:Aside0 (DcS W5 (fun b=>w.heap.size≤b) P d):=by rw [hW5];exact HM5
 replace HN5:Aside0 (DcS W5 (fun b=>W3.heap.size≤b) P2 d2):=by rw [hW5];exact HN5
 rw [← hW5]
 rw [← hgy] at HY5 ⊢
 clear hgy hW5 hbx HMEM HB4 HG4 HM4 HG3 HB3 HM3
 obtain ⟨hd,he⟩:=HEQ.out
 have HDQ:=Ak (endz_ok HBY.out HTK.out)
 clear HEQ HTK
 subst hd
 subst he
 go_wp2_with (first
  | (refine wpList_load_row rfl 30 _ rfl (gx) rfl 30 _ (0,0) _ HG5.out Try.underlying30 rfl (by kernel_rfl) ?_)
  | (refine wpList_load_row rfl 30 _ rfl (gy) rfl 30 _ (0,0) _ HY5.out Try.underlying30 rfl (by kernel_rfl) ?_)
  | (go_at_call 23;go_must (refine (dEqual_self d HDQ.out P P2 W5 (DcS.all HM5.out) (DcS.all HN5.out)).mono ?_;rintro e w6 ⟨rfl,hb⟩;have HB6:=Ak (below_then HB5.out HB5.out.size hb);clear hb))
  | (go_at_call 15;go_must (refine (awake_calls _).mono ?_;rintro e w8 ⟨rfl,hb8⟩;have HB8:=Ak (below_then HB6.out HB6.out.size hb8);clear hb8)))
 go_ret
 exact ⟨rfl,HB8.out⟩
end Go.Proofs.Ytcgkeolgflphiaa

namespace Go.Proofs.Ytcgkeolgflphiaa
open Go.RowKit Go.Proofs.YtcgkeolgflphiaaW.PrintWords Go.RegionInvYtcgkeolgflphiaa

theorem bs_arg {w:World} {A:Option Addr} {n c:Nat} {xs:List Int} (hr:ReadsInt w .u8 A n xs) (hc:n≤c) (hB:Bytes xs) (hl:n≤140737488355000):Bs w w.heap.size A n c xs:=
 ⟨hc,hr,fun i hi=>by
  obtain ⟨ad,e,hx⟩:=hr.at_ 0 (Int.le_refl 0) (by omega)
  have:=World.block_lt_of_cell? w _ hx
  have hbl:(ad.add (Int.toNat 0)).block=ad.block:=by unfold Addr.add;split <;> rfl
  exact ⟨ad,e,by omega⟩,hB,hl⟩
end Go.Proofs.Ytcgkeolgflphiaa

namespace Go.Proofs.YtcgkeolgflphiaaW.PrintWords
open Go.ChangeShapes Go.WideShapes
theorem sized_ints {H:Type} {enc:TypeId × Value→H} {P:Program} {W:World} {base:Nat} {spare:Nat→Bool} {held:Bool} {t e:TypeId} {k:IntKind} {a:Option Addr} {len cap:Nat} {d:DataW H} {ps:List MemPlace} {ts:List TypeId} {ds:List (DataW H)} {j:Nat}
  (hsz:(DataW.weightsEach P ts ds).all (·≤reachBytes)=true) (ht:ts[j]?=some t) (hd:ds[j]?=some d) (hu:P.underlying t=some (.slice e)) (he:P.underlying e=some (.int k)) (hc:P.cellsOf e=1) {B:Nat} (hB:P.bytesOf e=B)
  (h:DataW.Trod enc P W base spare held t (.slice a len cap) d ps):len * B≤140737488351232:=by
 obtain ⟨fuel,hf⟩:=h
 rcases open_ints hu he hc hf with ⟨hcs,_⟩ | ⟨x,l,c,zs,hcs,_,hl,_,hz,hx,_,_⟩
 ·simp [Value.cells] at hcs
  obtain ⟨rfl,rfl,rfl⟩:=hcs
  simp
 ·simp [Value.cells] at hcs
  obtain ⟨rfl,rfl,rfl⟩:=hcs
  obtain ⟨hx,_⟩:=Prod.mk.inj hx
  subst hx
  have z:=sized_slice hsz ht hd hu
  rw [hB] at z
  have hl2:len≤zs.length:=by
   rw [hz]
   split
   ·exact hl
   ·exact Nat.le_refl _
  have h1:(lits (H:=H) k (zs.take len)).length+(lits (H:=H) k (zs.drop len)).length=zs.length:=by
   simp [lits]
   omega
  rw [h1] at z
  exact Nat.le_trans (Nat.mul_le_mul_right _ hl2) z
end Go.Proofs.YtcgkeolgflphiaaW.PrintWords
