/-
  Merged: TInR.
-/
import Derived.Test.YtdboloabpjmgaaaMInst5
namespace Go.Proofs.Ytdboloabpjmgaaa
open Go.RowKit Go.Proofs.YtdboloabpjmgaaaW.PrintWords Go.RegionInvYtdboloabpjmgaaa Go.RegionEYtdboloabpjmgaaa
set_option linter.unusedVariables false

def tia_ops:List Oper:=[
 { dst:=some 7,op:=Go.Op.move (Go.Operand.tmp 2),type:=23,pos:= "law.go:114",after:=#[],guard:=none },
 { dst:=some 8,op:=Go.Op.call { callee:=Go.Callee.builtin Go.Builtin.len,args:=#[Go.Operand.tmp 7],argTypes:=#[23] },type:=3,pos:= "law.go:114",after:=#[{ on:=0,ground:=Go.Ground.data }],guard:=none },
 { dst:=some 9,op:=Go.Op.binOp Go.BinOp.gtr 3 (Go.Operand.tmp 8) (Go.Operand.const (Go.Value.int Go.IntKind.i64 20)) 3,type:=4,pos:= "law.go:114",after:=#[{ on:=1,ground:=Go.Ground.data }],guard:=none },
 { dst:=some 10,op:=Go.Op.move (Go.Operand.tmp 9),type:=4,pos:= "law.go:114",after:=#[{ on:=2,ground:=Go.Ground.data }],guard:=none },
 { dst:=some 11,op:=Go.Op.load 28 (Go.Operand.tmp 3),type:=28,pos:= "law.go:114",after:=#[{ on:=3,ground:=Go.Ground.guard }],guard:=some (3,false) },
 { dst:=some 12,op:=Go.Op.load 28 (Go.Operand.tmp 4),type:=28,pos:= "law.go:114",after:=#[{ on:=3,ground:=Go.Ground.guard }],guard:=some (3,false) },
 { dst:=some 13,op:=Go.Op.call { callee:=Go.Callee.value (Go.Operand.func 17),args:=#[Go.Operand.tmp 11,Go.Operand.tmp 12],argTypes:=#[28,28] },type:=28,pos:= "law.go:114",after:=#[{ on:=4,ground:=Go.Ground.data },{ on:=5,ground:=Go.Ground.data },{ on:=3,ground:=Go.Ground.chain },{ on:=3,ground:=Go.Ground.guard }],guard:=some (3,false) },
 { dst:=some 14,op:=Go.Op.load 28 (Go.Operand.tmp 3),type:=28,pos:= "law.go:114",after:=#[{ on:=3,ground:=Go.Ground.guard }],guard:=some (3,false) },
 { dst:=some 15,op:=Go.Op.load 28 (Go.Operand.tmp 4),type:=28,pos:= "law.go:114",after:=#[{ on:=3,ground:=Go.Ground.guard }],guard:=some (3,false) },
 { dst:=some 16,op:=Go.Op.call { callee:=Go.Callee.value (Go.Operand.func 18),args:=#[Go.Operand.tmp 14,Go.Operand.tmp 15],argTypes:=#[28,28] },type:=28,pos:= "law.go:114",after:=#[{ on:=7,ground:=Go.Ground.data },{ on:=8,ground:=Go.Ground.data },{ on:=6,ground:=Go.Ground.chain },{ on:=3,ground:=Go.Ground.guard }],guard:=some (3,false) },
 { dst:=some 17,op:=Go.Op.call { callee:=Go.Callee.value (Go.Operand.func 22),args:=#[Go.Operand.tmp 13,Go.Operand.tmp 16],argTypes:=#[28,28] },type:=4,pos:= "law.go:114",after:=#[{ on:=6,ground:=Go.Ground.data },{ on:=9,ground:=Go.Ground.data },{ on:=9,ground:=Go.Ground.chain },{ on:=3,ground:=Go.Ground.guard }],guard:=some (3,false) },
 { dst:=some 18,op:=Go.Op.move (Go.Operand.tmp 17),type:=4,pos:= "law.go:114",after:=#[{ on:=10,ground:=Go.Ground.data },{ on:=10,ground:=Go.Ground.chain },{ on:=3,ground:=Go.Ground.guard }],guard:=some (3,false) },
 { dst:=some 19,op:=Go.Op.load 28 (Go.Operand.tmp 3),type:=28,pos:= "law.go:114",after:=#[{ on:=11,ground:=Go.Ground.guard }],guard:=some (11,true) },
 { dst:=some 20,op:=Go.Op.move (Go.Operand.tmp 2),type:=23,pos:= "law.go:114",after:=#[{ on:=11,ground:=Go.Ground.guard }],guard:=some (11,true) },
 { dst:=some 21,op:=Go.Op.call { callee:=Go.Callee.value (Go.Operand.func 50),args:=#[Go.Operand.tmp 19,Go.Operand.tmp 20],argTypes:=#[28,23] },type:=28,pos:= "law.go:114",after:=#[{ on:=12,ground:=Go.Ground.data },{ on:=13,ground:=Go.Ground.data },{ on:=11,ground:=Go.Ground.chain },{ on:=11,ground:=Go.Ground.guard }],guard:=some (11,true) },
 { dst:=some 22,op:=Go.Op.load 28 (Go.Operand.tmp 3),type:=28,pos:= "law.go:114",after:=#[{ on:=11,ground:=Go.Ground.guard }],guard:=some (11,true) },
 { dst:=some 23,op:=Go.Op.move (Go.Operand.tmp 2),type:=23,pos:= "law.go:114",after:=#[{ on:=11,ground:=Go.Ground.guard }],guard:=some (11,true) },
 { dst:=some 24,op:=Go.Op.call { callee:=Go.Callee.value (Go.Operand.func 51),args:=#[Go.Operand.tmp 22,Go.Operand.tmp 23],argTypes:=#[28,23] },type:=28,pos:= "law.go:114",after:=#[{ on:=15,ground:=Go.Ground.data },{ on:=16,ground:=Go.Ground.data },{ on:=14,ground:=Go.Ground.chain },{ on:=11,ground:=Go.Ground.guard }],guard:=some (11,true) },
 { dst:=some 25,op:=Go.Op.call { callee:=Go.Callee.value (Go.Operand.func 22),args:=#[Go.Operand.tmp 21,Go.Operand.tmp 24],argTypes:=#[28,28] },type:=4,pos:= "law.go:114",after:=#[{ on:=14,ground:=Go.Ground.data },{ on:=17,ground:=Go.Ground.data },{ on:=17,ground:=Go.Ground.chain },{ on:=11,ground:=Go.Ground.guard }],guard:=some (11,true) },
 { dst:=some 26,op:=Go.Op.pick (Go.Operand.tmp 18) (Go.Operand.tmp 25) (Go.Operand.const (Go.Value.bool false)),type:=4,pos:= "law.go:114",after:=#[{ on:=11,ground:=Go.Ground.data },{ on:=18,ground:=Go.Ground.data },{ on:=3,ground:=Go.Ground.guard }],guard:=some (3,false) },
 { dst:=some 27,op:=Go.Op.move (Go.Operand.tmp 26),type:=4,pos:= "law.go:114",after:=#[{ on:=19,ground:=Go.Ground.data },{ on:=18,ground:=Go.Ground.chain },{ on:=3,ground:=Go.Ground.guard }],guard:=some (3,false) },
 { dst:=some 28,op:=Go.Op.call { callee:=Go.Callee.value (Go.Operand.func 25),args:=#[],argTypes:=#[] },type:=4,pos:= "law.go:114",after:=#[{ on:=20,ground:=Go.Ground.chain },{ on:=20,ground:=Go.Ground.guard }],guard:=some (20,true) },
 { dst:=some 29,op:=Go.Op.pick (Go.Operand.tmp 27) (Go.Operand.tmp 28) (Go.Operand.const (Go.Value.bool false)),type:=4,pos:= "law.go:114",after:=#[{ on:=20,ground:=Go.Ground.data },{ on:=21,ground:=Go.Ground.data },{ on:=3,ground:=Go.Ground.guard }],guard:=some (3,false) },
 { dst:=some 30,op:=Go.Op.pick (Go.Operand.tmp 10) (Go.Operand.const (Go.Value.bool true)) (Go.Operand.tmp 29),type:=4,pos:= "law.go:114",after:=#[{ on:=3,ground:=Go.Ground.data },{ on:=22,ground:=Go.Ground.data }],guard:=none },
 { dst:=some 6,op:=Go.Op.assign (Go.Operand.tmp 30),type:=4,pos:= "law.go:114",after:=#[{ on:=23,ground:=Go.Ground.data },{ on:=21,ground:=Go.Ground.chain },{ on:=0,ground:=Go.Ground.phase },{ on:=1,ground:=Go.Ground.phase },{ on:=2,ground:=Go.Ground.phase },{ on:=3,ground:=Go.Ground.phase },{ on:=4,ground:=Go.Ground.phase },{ on:=5,ground:=Go.Ground.phase },{ on:=6,ground:=Go.Ground.phase },{ on:=7,ground:=Go.Ground.phase },{ on:=8,ground:=Go.Ground.phase },{ on:=9,ground:=Go.Ground.phase },{ on:=10,ground:=Go.Ground.phase },{ on:=11,ground:=Go.Ground.phase },{ on:=12,ground:=Go.Ground.phase },{ on:=13,ground:=Go.Ground.phase },{ on:=14,ground:=Go.Ground.phase },{ on:=15,ground:=Go.Ground.phase },{ on:=16,ground:=Go.Ground.phase },{ on:=17,ground:=Go.Ground.phase },{ on:=18,ground:=Go.Ground.phase },{ on:=19,ground:=Go.Ground.phase },{ on:=20,ground:=Go.Ground.phase },{ on:=21,ground:=Go.Ground.phase },{ on:=22,ground:=Go.Ground.phase },{ on:=23,ground:=Go.Ground.phase }],guard:=none }]
def tia_F (w0:World) (B:Nat) (ga:Nat) (pa:Pl) (ta:Tm) (gb:Nat) (pb:Pl) (tb:Tm) (Av:Option Addr) (nv cv:Nat) (vs:List Lv):Nat→(Nat→Value)→Value→World→(Nat→Prop)→Prop:=fun rix=>match rix with
 | 0=>fun _ v _ _=>v=.slice Av nv cv
 | 1=>fun _ v _ _=>v=.int .i64 nv
 | 2=>fun _ v _ _=>v=.bool true
 | 3=>fun _ v _ _=>v=.bool true
 | 4=>fun _ v _ _=>v=undef
 | 5=>fun _ v _ _=>v=undef
 | 6=>fun _ v _ _=>v=undef
 | 7=>fun _ v _ _=>v=undef
 | 8=>fun _ v _ _=>v=undef
 | 9=>fun _ v _ _=>v=undef
 | 10=>fun _ v _ _=>v=undef
 | 11=>fun _ v _ _=>v=undef
 | 12=>fun _ v _ _=>v=undef
 | 13=>fun _ v _ _=>v=undef
 | 14=>fun _ v _ _=>v=undef
 | 15=>fun _ v _ _=>v=undef
 | 16=>fun _ v _ _=>v=undef
 | 17=>fun _ v _ _=>v=undef
 | 18=>fun _ v _ _=>v=undef
 | 19=>fun _ v _ _=>v=undef
 | 20=>fun _ v _ _=>v=undef
 | 21=>fun _ v _ _=>v=undef
 | 22=>fun _ v _ _=>v=undef
 | 23=>fun _ v _ _=>v=.bool true
 | 24=>fun _ v _ _=>v=.bool true
 | _=>fun _ _ _ _=>True
def tia_C:Nat→List Nat:=fun rix=>match rix with
 | _=>[]
theorem tia_nw2:nwB tia_ops.toArray 2=true:=by kernel_rfl
theorem tia_nw3:nwB tia_ops.toArray 3=true:=by kernel_rfl
theorem tia_nw4:nwB tia_ops.toArray 4=true:=by kernel_rfl
set_option maxRecDepth 100000 in
set_option maxHeartbeats 8000000 in
theorem tia_obs (w0:World) (B:Nat) (ga:Nat) (pa:Pl) (ta:Tm) (gb:Nat) (pb:Pl) (tb:Tm) (Av:Option Addr) (nv cv:Nat) (vs:List Lv) (hB:B≤w0.heap.size) (hx3:w0.heap[ga]?=some (tmO pa ta)) (hin3:TmIn w0 B pa ta) (hx4:w0.heap[gb]?=some (tmO pb tb)) (hin4:TmIn w0 B pb tb) (h20 :  (20:Int)<(nv:Int)) (hn:nv=vs.length) (hvs:LvIn w0 B Av cv (.mk 0 0 vs)) (hma:TmM ta) (hmb:TmM tb) (Q:Exit→Act→World→Prop) (a0:Act) (hi2:a0.tmps.getD 2 undef=.slice Av nv cv) (hi3:a0.tmps.getD 3 undef=.pointer (some ⟨ga,0,none⟩)) (hi4:a0.tmps.getD 4 undef=.pointer (some ⟨gb,0,none⟩)) :
  ObsE Try.prog tia_ops.toArray Q (est2 0 0 (fun _=>False) (fun _=>False)) tia_C (tia_F w0 B ga pa ta gb pb tb Av nv cv vs) a0 w0 tia_ops.toArray.toList 0:=by
 have nw2:=tia_nw2
 have nw3:=tia_nw3
 have nw4:=tia_nw4
 refine ⟨?_,?_,?_,?_,?_,?_,?_,?_,?_,?_,?_,?_,?_,?_,?_,?_,?_,?_,?_,?_,?_,?_,?_,?_,?_,trivial⟩
 ·refine ⟨⟨fun τ=>stableE_det _,leans_not⟩,?_⟩
  intro a w O hk
  have e2:a.eval (.tmp 2)=.slice Av nv cv:=(hk.init 2 (initialB_of_nw nw2)).trans hi2
  exact toE (ob_move rfl e2 (wanted_none rfl) rfl)
 ·refine ⟨⟨fun τ=>stableE_det _,leans_not⟩,?_⟩
  intro a w O hk
  have e7:a.eval (.tmp 7)=.slice Av nv cv:=hk.fact 0 _ 7 rfl rfl rfl rfl
  exact toE (ob_len rfl e7 Try.underlying23 (wanted_none rfl) rfl)
 ·refine ⟨⟨fun τ=>stableE_det _,leans_not⟩,?_⟩
  intro a w O hk
  have e8:a.eval (.tmp 8)=.int .i64 nv:=hk.fact 1 _ 8 rfl rfl rfl rfl
  have x3:=hk.world.still hx3 (fun ⟨_,h⟩=>h.elim And.right And.right)
  have x4:=hk.world.still hx4 (fun ⟨_,h⟩=>h.elim And.right And.right)
  have hfx:∀ k,k<B→w.heap[k]?=w0.heap[k]?:=fun k hk'=>hk.fix k ((fun k hk'=>est2_fix (Nat.lt_of_lt_of_le hk' hB) (fun e=>e.elim) (fun e=>e.elim)) k hk')
  have hsz:=hk.world.size
  have y3:=hin3.same (w':=w) (fun k hk' _=>hfx k hk')
  have y4:=hin4.same (w':=w) (fun k hk' _=>hfx k hk')
  have yv:=LvIn.mono (LvS.same (w':=w) hvs (fun k hk' _=>hfx k hk')) (Nat.le_trans hB hsz)
  exact obE_run (wanted_none rfl) (by clear hn;unfold execOp;simp only [];rw [e8];go_simp;try simp [h20];try omega) rfl
 ·refine ⟨⟨fun τ=>stableE_det _,leans_not⟩,?_⟩
  intro a w O hk
  have e9:a.eval (.tmp 9)=.bool true:=hk.fact 2 _ 9 rfl rfl rfl rfl
  exact toE (ob_move rfl e9 (wanted_none rfl) rfl)
 ·refine ⟨⟨fun τ=>stableE_det _,leans_not⟩,?_⟩
  intro a w O hk
  have e3:a.eval (.tmp 3)=.pointer (some ⟨ga,0,none⟩):=(hk.init 3 (initialB_of_nw nw3)).trans hi3
  have e10:a.eval (.tmp 10)=.bool true:=hk.fact 3 _ 10 rfl rfl rfl rfl
  exact toE (ob_skip (unwanted_of rfl rfl rfl e10 (by decide)) rfl)
 ·refine ⟨⟨fun τ=>stableE_det _,leans_not⟩,?_⟩
  intro a w O hk
  have e4:a.eval (.tmp 4)=.pointer (some ⟨gb,0,none⟩):=(hk.init 4 (initialB_of_nw nw4)).trans hi4
  have e10:a.eval (.tmp 10)=.bool true:=hk.fact 3 _ 10 rfl rfl rfl rfl
  exact toE (ob_skip (unwanted_of rfl rfl rfl e10 (by decide)) rfl)
 ·refine ⟨⟨fun τ=>stableE_det _,leans_not⟩,?_⟩
  intro a w O hk
  have e11:a.eval (.tmp 11)=undef:=hk.fact 4 _ 11 rfl rfl rfl rfl
  have e12:a.eval (.tmp 12)=undef:=hk.fact 5 _ 12 rfl rfl rfl rfl
  have e10:a.eval (.tmp 10)=.bool true:=hk.fact 3 _ 10 rfl rfl rfl rfl
  exact toE (ob_skip (unwanted_of rfl rfl rfl e10 (by decide)) rfl)
 ·refine ⟨⟨fun τ=>stableE_det _,leans_not⟩,?_⟩
  intro a w O hk
  have e3:a.eval (.tmp 3)=.pointer (some ⟨ga,0,none⟩):=(hk.init 3 (initialB_of_nw nw3)).trans hi3
  have e10:a.eval (.tmp 10)=.bool true:=hk.fact 3 _ 10 rfl rfl rfl rfl
  exact toE (ob_skip (unwanted_of rfl rfl rfl e10 (by decide)) rfl)
 ·refine ⟨⟨fun τ=>stableE_det _,leans_not⟩,?_⟩
  intro a w O hk
  have e4:a.eval (.tmp 4)=.pointer (some ⟨gb,0,none⟩):=(hk.init 4 (initialB_of_nw nw4)).trans hi4
  have e10:a.eval (.tmp 10)=.bool true:=hk.fact 3 _ 10 rfl rfl rfl rfl
  exact toE (ob_skip (unwanted_of rfl rfl rfl e10 (by decide)) rfl)
 ·refine ⟨⟨fun τ=>stableE_det _,leans_not⟩,?_⟩
  intro a w O hk
  have e14:a.eval (.tmp 14)=undef:=hk.fact 7 _ 14 rfl rfl rfl rfl
  have e15:a.eval (.tmp 15)=undef:=hk.fact 8 _ 15 rfl rfl rfl rfl
  have e10:a.eval (.tmp 10)=.bool true:=hk.fact 3 _ 10 rfl rfl rfl rfl
  exact toE (ob_skip (unwanted_of rfl rfl rfl e10 (by decide)) rfl)
 ·refine ⟨⟨fun τ=>stableE_det _,leans_not⟩,?_⟩
  intro a w O hk
  have e13:a.eval (.tmp 13)=undef:=hk.fact 6 _ 13 rfl rfl rfl rfl
  have e16:a.eval (.tmp 16)=undef:=hk.fact 9 _ 16 rfl rfl rfl rfl
  have e10:a.eval (.tmp 10)=.bool true:=hk.fact 3 _ 10 rfl rfl rfl rfl
  exact toE (ob_skip (unwanted_of rfl rfl rfl e10 (by decide)) rfl)
 ·refine ⟨⟨fun τ=>stableE_det _,leans_not⟩,?_⟩
  intro a w O hk
  have e17:a.eval (.tmp 17)=undef:=hk.fact 10 _ 17 rfl rfl rfl rfl
  have e10:a.eval (.tmp 10)=.bool true:=hk.fact 3 _ 10 rfl rfl rfl rfl
  exact toE (ob_skip (unwanted_of rfl rfl rfl e10 (by decide)) rfl)
 ·refine ⟨⟨fun τ=>stableE_det _,leans_not⟩,?_⟩
  intro a w O hk
  have e3:a.eval (.tmp 3)=.pointer (some ⟨ga,0,none⟩):=(hk.init 3 (initialB_of_nw nw3)).trans hi3
  have e18:a.eval (.tmp 18)=undef:=hk.fact 11 _ 18 rfl rfl rfl rfl
  exact toE (ob_skip (unwanted_of_skipped rfl rfl rfl e18) rfl)
 ·refine ⟨⟨fun τ=>stableE_det _,leans_not⟩,?_⟩
  intro a w O hk
  have e2:a.eval (.tmp 2)=.slice Av nv cv:=(hk.init 2 (initialB_of_nw nw2)).trans hi2
  have e18:a.eval (.tmp 18)=undef:=hk.fact 11 _ 18 rfl rfl rfl rfl
  exact toE (ob_skip (unwanted_of_skipped rfl rfl rfl e18) rfl)
 ·refine ⟨⟨fun τ=>stableE_det _,leans_not⟩,?_⟩
  intro a w O hk
  have e19:a.eval (.tmp 19)=undef:=hk.fact 12 _ 19 rfl rfl rfl rfl
  have e20:a.eval (.tmp 20)=undef:=hk.fact 13 _ 20 rfl rfl rfl rfl
  have e18:a.eval (.tmp 18)=undef:=hk.fact 11 _ 18 rfl rfl rfl rfl
  exact toE (ob_skip (unwanted_of_skipped rfl rfl rfl e18) rfl)
 ·refine ⟨⟨fun τ=>stableE_det _,leans_not⟩,?_⟩
  intro a w O hk
  have e3:a.eval (.tmp 3)=.pointer (some ⟨ga,0,none⟩):=(hk.init 3 (initialB_of_nw nw3)).trans hi3
  have e18:a.eval (.tmp 18)=undef:=hk.fact 11 _ 18 rfl rfl rfl rfl
  exact toE (ob_skip (unwanted_of_skipped rfl rfl rfl e18) rfl)
 ·refine ⟨⟨fun τ=>stableE_det _,leans_not⟩,?_⟩
  intro a w O hk
  have e2:a.eval (.tmp 2)=.slice Av nv cv:=(hk.init 2 (initialB_of_nw nw2)).trans hi2
  have e18:a.eval (.tmp 18)=undef:=hk.fact 11 _ 18 rfl rfl rfl rfl
  exact toE (ob_skip (unwanted_of_skipped rfl rfl rfl e18) rfl)
 ·refine ⟨⟨fun τ=>stableE_det _,leans_not⟩,?_⟩
  intro a w O hk
  have e22:a.eval (.tmp 22)=undef:=hk.fact 15 _ 22 rfl rfl rfl rfl
  have e23:a.eval (.tmp 23)=undef:=hk.fact 16 _ 23 rfl rfl rfl rfl
  have e18:a.eval (.tmp 18)=undef:=hk.fact 11 _ 18 rfl rfl rfl rfl
  exact toE (ob_skip (unwanted_of_skipped rfl rfl rfl e18) rfl)
 ·refine ⟨⟨fun τ=>stableE_det _,leans_not⟩,?_⟩
  intro a w O hk
  have e21:a.eval (.tmp 21)=undef:=hk.fact 14 _ 21 rfl rfl rfl rfl
  have e24:a.eval (.tmp 24)=undef:=hk.fact 17 _ 24 rfl rfl rfl rfl
  have e18:a.eval (.tmp 18)=undef:=hk.fact 11 _ 18 rfl rfl rfl rfl
  exact toE (ob_skip (unwanted_of_skipped rfl rfl rfl e18) rfl)
 ·refine ⟨⟨fun τ=>stableE_det _,leans_not⟩,?_⟩
  intro a w O hk
  have e18:a.eval (.tmp 18)=undef:=hk.fact 11 _ 18 rfl rfl rfl rfl
  have e25:a.eval (.tmp 25)=undef:=hk.fact 18 _ 25 rfl rfl rfl rfl
  have e10:a.eval (.tmp 10)=.bool true:=hk.fact 3 _ 10 rfl rfl rfl rfl
  exact toE (ob_skip (unwanted_of rfl rfl rfl e10 (by decide)) rfl)
 ·refine ⟨⟨fun τ=>stableE_det _,leans_not⟩,?_⟩
  intro a w O hk
  have e26:a.eval (.tmp 26)=undef:=hk.fact 19 _ 26 rfl rfl rfl rfl
  have e10:a.eval (.tmp 10)=.bool true:=hk.fact 3 _ 10 rfl rfl rfl rfl
  exact toE (ob_skip (unwanted_of rfl rfl rfl e10 (by decide)) rfl)
 ·refine ⟨⟨fun τ=>stableE_det _,leans_not⟩,?_⟩
  intro a w O hk
  have e27:a.eval (.tmp 27)=undef:=hk.fact 20 _ 27 rfl rfl rfl rfl
  exact toE (ob_skip (unwanted_of_skipped rfl rfl rfl e27) rfl)
 ·refine ⟨⟨fun τ=>stableE_det _,leans_not⟩,?_⟩
  intro a w O hk
  have e27:a.eval (.tmp 27)=undef:=hk.fact 20 _ 27 rfl rfl rfl rfl
  have e28:a.eval (.tmp 28)=undef:=hk.fact 21 _ 28 rfl rfl rfl rfl
  have e10:a.eval (.tmp 10)=.bool true:=hk.fact 3 _ 10 rfl rfl rfl rfl
  exact toE (ob_skip (unwanted_of rfl rfl rfl e10 (by decide)) rfl)
 ·refine ⟨⟨fun τ=>stableE_det _,leans_not⟩,?_⟩
  intro a w O hk
  have e10:a.eval (.tmp 10)=.bool true:=hk.fact 3 _ 10 rfl rfl rfl rfl
  have e29:a.eval (.tmp 29)=undef:=hk.fact 22 _ 29 rfl rfl rfl rfl
  exact toE (ob_pick rfl e10 rfl (wanted_none rfl) rfl)
 ·refine ⟨⟨fun τ=>stableE_det _,leans_not⟩,?_⟩
  intro a w O hk
  have e30:a.eval (.tmp 30)=.bool true:=hk.fact 23 _ 30 rfl rfl rfl rfl
  exact toE (ob_assign rfl e30 (wanted_none rfl) rfl)
set_option maxRecDepth 100000 in
set_option maxHeartbeats 8000000 in
theorem tia_region {Q:Exit→Act→World→Prop} {id:Nat} (w0:World) (B:Nat) (ga:Nat) (pa:Pl) (ta:Tm) (gb:Nat) (pb:Pl) (tb:Tm) (Av:Option Addr) (nv cv:Nat) (vs:List Lv) {s0 s1 s5 s6 s7 s8 s9 s10 s11 s12 s13 s14 s15 s16 s17 s18 s19 s20 s21 s22 s23 s24 s25 s26 s27 s28 s29 s30:Value} (hB:B≤w0.heap.size) (hx3:w0.heap[ga]?=some (tmO pa ta)) (hin3:TmIn w0 B pa ta) (hx4:w0.heap[gb]?=some (tmO pb tb)) (hin4:TmIn w0 B pb tb) (h20 :  (20:Int)<(nv:Int)) (hn:nv=vs.length) (hvs:LvIn w0 B Av cv (.mk 0 0 vs)) (hma:TmM ta) (hmb:TmM tb)
  (hend:∀ (w':World),Chg (fun k=>False∨False) w0 w'→Q .normal { tmps:=(s0 :: s1 :: (.slice Av nv cv) :: (.pointer (some ⟨ga,0,none⟩)) :: (.pointer (some ⟨gb,0,none⟩)) :: s5 :: (.bool true) :: (.slice Av nv cv) :: (.int .i64 nv) :: (.bool true) :: (.bool true) :: undef :: undef :: undef :: undef :: undef :: undef :: undef :: undef :: undef :: undef :: undef :: undef :: undef :: undef :: undef :: undef :: undef :: undef :: undef :: (.bool true) :: []:List Value).toArray,defers:=[] } w') :
  (Code.region id tia_ops.toArray true).wp Try.prog Q { tmps:=(s0 :: s1 :: (.slice Av nv cv) :: (.pointer (some ⟨ga,0,none⟩)) :: (.pointer (some ⟨gb,0,none⟩)) :: s5 :: s6 :: s7 :: s8 :: s9 :: s10 :: s11 :: s12 :: s13 :: s14 :: s15 :: s16 :: s17 :: s18 :: s19 :: s20 :: s21 :: s22 :: s23 :: s24 :: s25 :: s26 :: s27 :: s28 :: s29 :: s30 :: []:List Value).toArray,defers:=[] } w0:=by
 refine wp_region_est (by kernel_rfl) (est2 0 0 (fun _=>False) (fun _=>False)) tia_C (tia_F w0 B ga pa ta gb pb tb Av nv cv vs) (est2_dis (fun _ h _=>h)) (est2_range (fun _ h=>h.elim) (fun _ h=>h.elim)) (by rfl) (by kernel_rfl) (tia_obs w0.drew B ga pa ta gb pb tb Av nv cv vs hB hx3 (TmS.same hin3 (fun _ _ _=>rfl)) hx4 (TmS.same hin4 (fun _ _ _=>rfl)) h20 hn (LvS.same hvs (fun _ _ _=>rfl)) hma hmb _ _ rfl rfl rfl) ?_
 intro a w' O hd hs hb hf hf2 ha hsame
 have hl:=slots_eq (ops:=tia_ops.toArray) [(6,.bool true),(7,.slice Av nv cv),(8,.int .i64 nv),(9,.bool true),(10,.bool true),(11,undef),(12,undef),(13,undef),(14,undef),(15,undef),(16,undef),(17,undef),(18,undef),(19,undef),(20,undef),(21,undef),(22,undef),(23,undef),(24,undef),(25,undef),(26,undef),(27,undef),(28,undef),(29,undef),(30,.bool true)] (show a.tmps.size=31 from hs) (fun i h=>hsame i h) ⟨(hf 24 _ 6 rfl rfl (by decide)).1,(hf 0 _ 7 rfl rfl (by decide)).1,(hf 1 _ 8 rfl rfl (by decide)).1,(hf 2 _ 9 rfl rfl (by decide)).1,(hf 3 _ 10 rfl rfl (by decide)).1,(hf 4 _ 11 rfl rfl (by decide)).1,(hf 5 _ 12 rfl rfl (by decide)).1,(hf 6 _ 13 rfl rfl (by decide)).1,(hf 7 _ 14 rfl rfl (by decide)).1,(hf 8 _ 15 rfl rfl (by decide)).1,(hf 9 _ 16 rfl rfl (by decide)).1,(hf 10 _ 17 rfl rfl (by decide)).1,(hf 11 _ 18 rfl rfl (by decide)).1,(hf 12 _ 19 rfl rfl (by decide)).1,(hf 13 _ 20 rfl rfl (by decide)).1,(hf 14 _ 21 rfl rfl (by decide)).1,(hf 15 _ 22 rfl rfl (by decide)).1,(hf 16 _ 23 rfl rfl (by decide)).1,(hf 17 _ 24 rfl rfl (by decide)).1,(hf 18 _ 25 rfl rfl (by decide)).1,(hf 19 _ 26 rfl rfl (by decide)).1,(hf 20 _ 27 rfl rfl (by decide)).1,(hf 21 _ 28 rfl rfl (by decide)).1,(hf 22 _ 29 rfl rfl (by decide)).1,(hf 23 _ 30 rfl rfl (by decide)).1,trivial⟩ (by kernel_rfl)
 obtain ⟨tmps,defers⟩:=a
 obtain rfl:defers=[]:=hd
 have hl':tmps=_:=hl
 rw [hl']
 have hb':=est2_chg hb
 refine Eq.mp ?_ (hend w' ⟨hb'.os,hb'.tape,hb'.output,hb'.size,hb'.block⟩)
 kernel_rfl

def tib_F (w0:World) (B:Nat) (ga:Nat) (pa:Pl) (ta:Tm) (gb:Nat) (pb:Pl) (tb:Tm) (Av:Option Addr) (nv cv:Nat) (vs:List Lv):Nat→(Nat→Value)→Value→World→(Nat→Prop)→Prop:=fun rix=>match rix with
 | 0=>fun _ v _ _=>v=.slice Av nv cv
 | 1=>fun _ v _ _=>v=.int .i64 nv
 | 2=>fun _ v _ _=>v=.bool false
 | 3=>fun _ v _ _=>v=.bool false
 | 4=>fun _ v _ _=>v=tmV pa ta
 | 5=>fun _ v _ _=>v=tmV pb tb
 | 6=>fun τ v w O=>TmO (fun k=>k<B) (InstT ta tb) v w O
 | 7=>fun _ v _ _=>v=tmV pa ta
 | 8=>fun _ v _ _=>v=tmV pb tb
 | 9=>fun τ v w O=>TmO (fun k=>k<B) (InstR ta tb) v w O
 | 10=>fun _ v _ _=>v=.bool true
 | 11=>fun _ v _ _=>v=.bool true
 | 12=>fun _ v _ _=>v=tmV pa ta
 | 13=>fun _ v _ _=>v=.slice Av nv cv
 | 14=>fun τ v w O=>TmO (fun k=>k<B) (InstLvT ta vs) v w O
 | 15=>fun _ v _ _=>v=tmV pa ta
 | 16=>fun _ v _ _=>v=.slice Av nv cv
 | 17=>fun τ v w O=>TmO (fun k=>k<B) (InstLvT ta vs) v w O
 | 18=>fun _ v _ _=>v=.bool true
 | 19=>fun _ v _ _=>v=.bool true
 | 20=>fun _ v _ _=>v=.bool true
 | 21=>fun _ v _ _=>v=.bool true
 | 22=>fun _ v _ _=>v=.bool true
 | 23=>fun _ v _ _=>v=.bool true
 | 24=>fun _ v _ _=>v=.bool true
 | _=>fun _ _ _ _=>True
def tib_C:Nat→List Nat:=fun rix=>match rix with
 | _=>[]
theorem tib_nw2:nwB tia_ops.toArray 2=true:=by kernel_rfl
theorem tib_nw3:nwB tia_ops.toArray 3=true:=by kernel_rfl
theorem tib_nw4:nwB tia_ops.toArray 4=true:=by kernel_rfl
set_option maxRecDepth 100000 in
set_option maxHeartbeats 8000000 in
theorem tib_obs (w0:World) (B:Nat) (ga:Nat) (pa:Pl) (ta:Tm) (gb:Nat) (pb:Pl) (tb:Tm) (Av:Option Addr) (nv cv:Nat) (vs:List Lv) (hB:B≤w0.heap.size) (hx3:w0.heap[ga]?=some (tmO pa ta)) (hin3:TmIn w0 B pa ta) (hx4:w0.heap[gb]?=some (tmO pb tb)) (hin4:TmIn w0 B pb tb) (h20:¬ (20:Int)<(nv:Int)) (hn:nv=vs.length) (hvs:LvIn w0 B Av cv (.mk 0 0 vs)) (hma:TmM ta) (hmb:TmM tb) (Q:Exit→Act→World→Prop) (a0:Act) (hi2:a0.tmps.getD 2 undef=.slice Av nv cv) (hi3:a0.tmps.getD 3 undef=.pointer (some ⟨ga,0,none⟩)) (hi4:a0.tmps.getD 4 undef=.pointer (some ⟨gb,0,none⟩)) :
  ObsE Try.prog tia_ops.toArray Q (est2 0 0 (fun _=>False) (fun _=>False)) tib_C (tib_F w0 B ga pa ta gb pb tb Av nv cv vs) a0 w0 tia_ops.toArray.toList 0:=by
 have nw2:=tib_nw2
 have nw3:=tib_nw3
 have nw4:=tib_nw4
 refine ⟨?_,?_,?_,?_,?_,?_,?_,?_,?_,?_,?_,?_,?_,?_,?_,?_,?_,?_,?_,?_,?_,?_,?_,?_,?_,trivial⟩
 ·refine ⟨⟨fun τ=>stableE_det _,leans_not⟩,?_⟩
  intro a w O hk
  have e2:a.eval (.tmp 2)=.slice Av nv cv:=(hk.init 2 (initialB_of_nw nw2)).trans hi2
  exact toE (ob_move rfl e2 (wanted_none rfl) rfl)
 ·refine ⟨⟨fun τ=>stableE_det _,leans_not⟩,?_⟩
  intro a w O hk
  have e7:a.eval (.tmp 7)=.slice Av nv cv:=hk.fact 0 _ 7 rfl rfl rfl rfl
  exact toE (ob_len rfl e7 Try.underlying23 (wanted_none rfl) rfl)
 ·refine ⟨⟨fun τ=>stableE_det _,leans_not⟩,?_⟩
  intro a w O hk
  have e8:a.eval (.tmp 8)=.int .i64 nv:=hk.fact 1 _ 8 rfl rfl rfl rfl
  have x3:=hk.world.still hx3 (fun ⟨_,h⟩=>h.elim And.right And.right)
  have x4:=hk.world.still hx4 (fun ⟨_,h⟩=>h.elim And.right And.right)
  have hfx:∀ k,k<B→w.heap[k]?=w0.heap[k]?:=fun k hk'=>hk.fix k ((fun k hk'=>est2_fix (Nat.lt_of_lt_of_le hk' hB) (fun e=>e.elim) (fun e=>e.elim)) k hk')
  have hsz:=hk.world.size
  have y3:=hin3.same (w':=w) (fun k hk' _=>hfx k hk')
  have y4:=hin4.same (w':=w) (fun k hk' _=>hfx k hk')
  have yv:=LvIn.mono (LvS.same (w':=w) hvs (fun k hk' _=>hfx k hk')) (Nat.le_trans hB hsz)
  exact obE_run (wanted_none rfl) (by clear hn;unfold execOp;simp only [];rw [e8];go_simp;try simp [h20];try omega) rfl
 ·refine ⟨⟨fun τ=>stableE_det _,leans_not⟩,?_⟩
  intro a w O hk
  have e9:a.eval (.tmp 9)=.bool false:=hk.fact 2 _ 9 rfl rfl rfl rfl
  exact toE (ob_move rfl e9 (wanted_none rfl) rfl)
 ·refine ⟨⟨fun τ=>stableE_det _,leans_not⟩,?_⟩
  intro a w O hk
  have e3:a.eval (.tmp 3)=.pointer (some ⟨ga,0,none⟩):=(hk.init 3 (initialB_of_nw nw3)).trans hi3
  have e10:a.eval (.tmp 10)=.bool false:=hk.fact 3 _ 10 rfl rfl rfl rfl
  have x3:=hk.world.still hx3 (fun ⟨_,h⟩=>h.elim And.right And.right)
  have x4:=hk.world.still hx4 (fun ⟨_,h⟩=>h.elim And.right And.right)
  have hfx:∀ k,k<B→w.heap[k]?=w0.heap[k]?:=fun k hk'=>hk.fix k ((fun k hk'=>est2_fix (Nat.lt_of_lt_of_le hk' hB) (fun e=>e.elim) (fun e=>e.elim)) k hk')
  have hsz:=hk.world.size
  have y3:=hin3.same (w':=w) (fun k hk' _=>hfx k hk')
  have y4:=hin4.same (w':=w) (fun k hk' _=>hfx k hk')
  have yv:=LvIn.mono (LvS.same (w':=w) hvs (fun k hk' _=>hfx k hk')) (Nat.le_trans hB hsz)
  exact obE_loadRow rfl e3 x3 Try.underlying28 rfl (by kernel_rfl) (wanted_of rfl rfl rfl e10) rfl
 ·refine ⟨⟨fun τ=>stableE_det _,leans_not⟩,?_⟩
  intro a w O hk
  have e4:a.eval (.tmp 4)=.pointer (some ⟨gb,0,none⟩):=(hk.init 4 (initialB_of_nw nw4)).trans hi4
  have e10:a.eval (.tmp 10)=.bool false:=hk.fact 3 _ 10 rfl rfl rfl rfl
  have x3:=hk.world.still hx3 (fun ⟨_,h⟩=>h.elim And.right And.right)
  have x4:=hk.world.still hx4 (fun ⟨_,h⟩=>h.elim And.right And.right)
  have hfx:∀ k,k<B→w.heap[k]?=w0.heap[k]?:=fun k hk'=>hk.fix k ((fun k hk'=>est2_fix (Nat.lt_of_lt_of_le hk' hB) (fun e=>e.elim) (fun e=>e.elim)) k hk')
  have hsz:=hk.world.size
  have y3:=hin3.same (w':=w) (fun k hk' _=>hfx k hk')
  have y4:=hin4.same (w':=w) (fun k hk' _=>hfx k hk')
  have yv:=LvIn.mono (LvS.same (w':=w) hvs (fun k hk' _=>hfx k hk')) (Nat.le_trans hB hsz)
  exact obE_loadRow rfl e4 x4 Try.underlying28 rfl (by kernel_rfl) (wanted_of rfl rfl rfl e10) rfl
 ·refine ⟨⟨fun τ=>stableE_tm (fun k hk'=>est2_fix (Nat.lt_of_lt_of_le hk' hB) (fun e=>e.elim) (fun e=>e.elim)),leans_not⟩,?_⟩
  intro a w O hk
  have e11:a.eval (.tmp 11)=tmV pa ta:=hk.fact 4 _ 11 rfl rfl rfl rfl
  have e12:a.eval (.tmp 12)=tmV pb tb:=hk.fact 5 _ 12 rfl rfl rfl rfl
  have e10:a.eval (.tmp 10)=.bool false:=hk.fact 3 _ 10 rfl rfl rfl rfl
  have x3:=hk.world.still hx3 (fun ⟨_,h⟩=>h.elim And.right And.right)
  have x4:=hk.world.still hx4 (fun ⟨_,h⟩=>h.elim And.right And.right)
  have hfx:∀ k,k<B→w.heap[k]?=w0.heap[k]?:=fun k hk'=>hk.fix k ((fun k hk'=>est2_fix (Nat.lt_of_lt_of_le hk' hB) (fun e=>e.elim) (fun e=>e.elim)) k hk')
  have hsz:=hk.world.size
  have y3:=hin3.same (w':=w) (fun k hk' _=>hfx k hk')
  have y4:=hin4.same (w':=w) (fun k hk' _=>hfx k hk')
  have yv:=LvIn.mono (LvS.same (w':=w) hvs (fun k hk' _=>hfx k hk')) (Nat.le_trans hB hsz)
  exact obE_tmCall #[tmV pa ta,tmV pb tb] rfl rfl rfl rfl (by simp only [List.map_cons,List.map_nil];rw [e11,e12];try rfl) (wanted_of rfl rfl rfl e10) ((InstS_calls (fun k=>k<B) w.heap.size (fun k h=>Nat.lt_of_lt_of_le h (Nat.le_trans hB hsz)) ta tb pa pb w (Nat.le_refl _) (TmS.mono y3 fun k h _=>h) (TmS.mono y4 fun k h _=>h)).mono fun e w' ⟨q9,h1,h2,h3⟩=>⟨q9,h1,h2.mono fun k h _=>h.elim (fun h=>.inl (.inl h)) .inr,h3⟩)
 ·refine ⟨⟨fun τ=>stableE_det _,leans_not⟩,?_⟩
  intro a w O hk
  have e3:a.eval (.tmp 3)=.pointer (some ⟨ga,0,none⟩):=(hk.init 3 (initialB_of_nw nw3)).trans hi3
  have e10:a.eval (.tmp 10)=.bool false:=hk.fact 3 _ 10 rfl rfl rfl rfl
  have x3:=hk.world.still hx3 (fun ⟨_,h⟩=>h.elim And.right And.right)
  have x4:=hk.world.still hx4 (fun ⟨_,h⟩=>h.elim And.right And.right)
  have hfx:∀ k,k<B→w.heap[k]?=w0.heap[k]?:=fun k hk'=>hk.fix k ((fun k hk'=>est2_fix (Nat.lt_of_lt_of_le hk' hB) (fun e=>e.elim) (fun e=>e.elim)) k hk')
  have hsz:=hk.world.size
  have y3:=hin3.same (w':=w) (fun k hk' _=>hfx k hk')
  have y4:=hin4.same (w':=w) (fun k hk' _=>hfx k hk')
  have yv:=LvIn.mono (LvS.same (w':=w) hvs (fun k hk' _=>hfx k hk')) (Nat.le_trans hB hsz)
  exact obE_loadRow rfl e3 x3 Try.underlying28 rfl (by kernel_rfl) (wanted_of rfl rfl rfl e10) rfl
 ·refine ⟨⟨fun τ=>stableE_det _,leans_not⟩,?_⟩
  intro a w O hk
  have e4:a.eval (.tmp 4)=.pointer (some ⟨gb,0,none⟩):=(hk.init 4 (initialB_of_nw nw4)).trans hi4
  have e10:a.eval (.tmp 10)=.bool false:=hk.fact 3 _ 10 rfl rfl rfl rfl
  have x3:=hk.world.still hx3 (fun ⟨_,h⟩=>h.elim And.right And.right)
  have x4:=hk.world.still hx4 (fun ⟨_,h⟩=>h.elim And.right And.right)
  have hfx:∀ k,k<B→w.heap[k]?=w0.heap[k]?:=fun k hk'=>hk.fix k ((fun k hk'=>est2_fix (Nat.lt_of_lt_of_le hk' hB) (fun e=>e.elim) (fun e=>e.elim)) k hk')
  have hsz:=hk.world.size
  have y3:=hin3.same (w':=w) (fun k hk' _=>hfx k hk')
  have y4:=hin4.same (w':=w) (fun k hk' _=>hfx k hk')
  have yv:=LvIn.mono (LvS.same (w':=w) hvs (fun k hk' _=>hfx k hk')) (Nat.le_trans hB hsz)
  exact obE_loadRow rfl e4 x4 Try.underlying28 rfl (by kernel_rfl) (wanted_of rfl rfl rfl e10) rfl
 ·refine ⟨⟨fun τ=>stableE_tm (fun k hk'=>est2_fix (Nat.lt_of_lt_of_le hk' hB) (fun e=>e.elim) (fun e=>e.elim)),leans_not⟩,?_⟩
  intro a w O hk
  have e14:a.eval (.tmp 14)=tmV pa ta:=hk.fact 7 _ 14 rfl rfl rfl rfl
  have e15:a.eval (.tmp 15)=tmV pb tb:=hk.fact 8 _ 15 rfl rfl rfl rfl
  have e10:a.eval (.tmp 10)=.bool false:=hk.fact 3 _ 10 rfl rfl rfl rfl
  have x3:=hk.world.still hx3 (fun ⟨_,h⟩=>h.elim And.right And.right)
  have x4:=hk.world.still hx4 (fun ⟨_,h⟩=>h.elim And.right And.right)
  have hfx:∀ k,k<B→w.heap[k]?=w0.heap[k]?:=fun k hk'=>hk.fix k ((fun k hk'=>est2_fix (Nat.lt_of_lt_of_le hk' hB) (fun e=>e.elim) (fun e=>e.elim)) k hk')
  have hsz:=hk.world.size
  have y3:=hin3.same (w':=w) (fun k hk' _=>hfx k hk')
  have y4:=hin4.same (w':=w) (fun k hk' _=>hfx k hk')
  have yv:=LvIn.mono (LvS.same (w':=w) hvs (fun k hk' _=>hfx k hk')) (Nat.le_trans hB hsz)
  exact obE_tmCall #[tmV pa ta,tmV pb tb] rfl rfl rfl rfl (by simp only [List.map_cons,List.map_nil];rw [e14,e15];try rfl) (wanted_of rfl rfl rfl e10) ((refInstG_calls (fun k=>k<B) w.heap.size (fun k h=>Nat.lt_of_lt_of_le h (Nat.le_trans hB hsz)) ta tb pa pb w (Nat.le_refl _) (TmS.mono y3 fun k h _=>h) (TmS.mono y4 fun k h _=>h)).mono fun e w' ⟨q9,h1,h2,h3⟩=>⟨q9,h1,h2.mono fun k h _=>h.elim (fun h=>.inl (.inl h)) .inr,h3⟩)
 ·refine ⟨⟨fun τ=>stableE_det _,leans_not⟩,?_⟩
  intro a w O hk
  have f13:=hk.fact 6 _ 13 rfl rfl rfl rfl
  have g13:=hk.owns 6 rfl rfl
  have f16:=hk.fact 9 _ 16 rfl rfl rfl rfl
  have g16:=hk.owns 9 rfl rfl
  have e10:a.eval (.tmp 10)=.bool false:=hk.fact 3 _ 10 rfl rfl rfl rfl
  have x3:=hk.world.still hx3 (fun ⟨_,h⟩=>h.elim And.right And.right)
  have x4:=hk.world.still hx4 (fun ⟨_,h⟩=>h.elim And.right And.right)
  have hfx:∀ k,k<B→w.heap[k]?=w0.heap[k]?:=fun k hk'=>hk.fix k ((fun k hk'=>est2_fix (Nat.lt_of_lt_of_le hk' hB) (fun e=>e.elim) (fun e=>e.elim)) k hk')
  have hsz:=hk.world.size
  have y3:=hin3.same (w':=w) (fun k hk' _=>hfx k hk')
  have y4:=hin4.same (w':=w) (fun k hk' _=>hfx k hk')
  have yv:=LvIn.mono (LvS.same (w':=w) hvs (fun k hk' _=>hfx k hk')) (Nat.le_trans hB hsz)
  obtain ⟨q13,z13,h13⟩:=f13
  replace z13:a.eval (.tmp 13)=_:=z13
  obtain ⟨q16,z16,h16⟩:=f16
  replace z16:a.eval (.tmp 16)=_:=z16
  exact obE_callV #[tmV q13 (InstT ta tb),tmV q16 (InstR ta tb)] rfl rfl rfl rfl (by simp only [List.map_cons,List.map_nil];rw [z13,z16];try rfl) (wanted_of rfl rfl rfl e10) ((alike_calls (InstT ta tb) (InstR ta tb) q13 q16 w (fun _ _=>TmM.cmp _ _ (Nat.lt_succ_self _) (inst_m hma hmb) _) (TmS.all h13) (TmS.all h16)).mono fun e w' h=>⟨by rw [h.1,inst_alike ta tb],h.2⟩)
 ·refine ⟨⟨fun τ=>stableE_det _,leans_not⟩,?_⟩
  intro a w O hk
  have e17:a.eval (.tmp 17)=.bool true:=hk.fact 10 _ 17 rfl rfl rfl rfl
  have e10:a.eval (.tmp 10)=.bool false:=hk.fact 3 _ 10 rfl rfl rfl rfl
  exact toE (ob_move rfl e17 (wanted_of rfl rfl rfl e10) rfl)
 ·refine ⟨⟨fun τ=>stableE_det _,leans_not⟩,?_⟩
  intro a w O hk
  have e3:a.eval (.tmp 3)=.pointer (some ⟨ga,0,none⟩):=(hk.init 3 (initialB_of_nw nw3)).trans hi3
  have e18:a.eval (.tmp 18)=.bool true:=hk.fact 11 _ 18 rfl rfl rfl rfl
  have x3:=hk.world.still hx3 (fun ⟨_,h⟩=>h.elim And.right And.right)
  have x4:=hk.world.still hx4 (fun ⟨_,h⟩=>h.elim And.right And.right)
  have hfx:∀ k,k<B→w.heap[k]?=w0.heap[k]?:=fun k hk'=>hk.fix k ((fun k hk'=>est2_fix (Nat.lt_of_lt_of_le hk' hB) (fun e=>e.elim) (fun e=>e.elim)) k hk')
  have hsz:=hk.world.size
  have y3:=hin3.same (w':=w) (fun k hk' _=>hfx k hk')
  have y4:=hin4.same (w':=w) (fun k hk' _=>hfx k hk')
  have yv:=LvIn.mono (LvS.same (w':=w) hvs (fun k hk' _=>hfx k hk')) (Nat.le_trans hB hsz)
  exact obE_loadRow rfl e3 x3 Try.underlying28 rfl (by kernel_rfl) (wanted_of rfl rfl rfl e18) rfl
 ·refine ⟨⟨fun τ=>stableE_det _,leans_not⟩,?_⟩
  intro a w O hk
  have e2:a.eval (.tmp 2)=.slice Av nv cv:=(hk.init 2 (initialB_of_nw nw2)).trans hi2
  have e18:a.eval (.tmp 18)=.bool true:=hk.fact 11 _ 18 rfl rfl rfl rfl
  exact toE (ob_move rfl e2 (wanted_of rfl rfl rfl e18) rfl)
 ·refine ⟨⟨fun τ=>stableE_tm (fun k hk'=>est2_fix (Nat.lt_of_lt_of_le hk' hB) (fun e=>e.elim) (fun e=>e.elim)),leans_not⟩,?_⟩
  intro a w O hk
  have e19:a.eval (.tmp 19)=tmV pa ta:=hk.fact 12 _ 19 rfl rfl rfl rfl
  have e20:a.eval (.tmp 20)=.slice Av nv cv:=hk.fact 13 _ 20 rfl rfl rfl rfl
  have e18:a.eval (.tmp 18)=.bool true:=hk.fact 11 _ 18 rfl rfl rfl rfl
  have x3:=hk.world.still hx3 (fun ⟨_,h⟩=>h.elim And.right And.right)
  have x4:=hk.world.still hx4 (fun ⟨_,h⟩=>h.elim And.right And.right)
  have hfx:∀ k,k<B→w.heap[k]?=w0.heap[k]?:=fun k hk'=>hk.fix k ((fun k hk'=>est2_fix (Nat.lt_of_lt_of_le hk' hB) (fun e=>e.elim) (fun e=>e.elim)) k hk')
  have hsz:=hk.world.size
  have y3:=hin3.same (w':=w) (fun k hk' _=>hfx k hk')
  have y4:=hin4.same (w':=w) (fun k hk' _=>hfx k hk')
  have yv:=LvIn.mono (LvS.same (w':=w) hvs (fun k hk' _=>hfx k hk')) (Nat.le_trans hB hsz)
  exact obE_tmCall #[tmV pa ta,.slice Av nv cv] rfl rfl rfl rfl (by simp only [List.map_cons,List.map_nil];rw [e19,e20];try rfl) (wanted_of rfl rfl rfl e18) ((instLv_calls (fun k=>k<B) w.heap.size (fun k h=>Nat.lt_of_lt_of_le h (Nat.le_trans hB hsz)) ta pa Av nv cv vs w (Nat.le_refl _) hn (by omega) (TmS.mono y3 fun k h _=>h) yv).mono fun e w' ⟨q9,h1,h2,h3⟩=>⟨q9,h1,h2.mono fun k h _=>h.elim (fun h=>.inl (.inl h)) .inr,h3⟩)
 ·refine ⟨⟨fun τ=>stableE_det _,leans_not⟩,?_⟩
  intro a w O hk
  have e3:a.eval (.tmp 3)=.pointer (some ⟨ga,0,none⟩):=(hk.init 3 (initialB_of_nw nw3)).trans hi3
  have e18:a.eval (.tmp 18)=.bool true:=hk.fact 11 _ 18 rfl rfl rfl rfl
  have x3:=hk.world.still hx3 (fun ⟨_,h⟩=>h.elim And.right And.right)
  have x4:=hk.world.still hx4 (fun ⟨_,h⟩=>h.elim And.right And.right)
  have hfx:∀ k,k<B→w.heap[k]?=w0.heap[k]?:=fun k hk'=>hk.fix k ((fun k hk'=>est2_fix (Nat.lt_of_lt_of_le hk' hB) (fun e=>e.elim) (fun e=>e.elim)) k hk')
  have hsz:=hk.world.size
  have y3:=hin3.same (w':=w) (fun k hk' _=>hfx k hk')
  have y4:=hin4.same (w':=w) (fun k hk' _=>hfx k hk')
  have yv:=LvIn.mono (LvS.same (w':=w) hvs (fun k hk' _=>hfx k hk')) (Nat.le_trans hB hsz)
  exact obE_loadRow rfl e3 x3 Try.underlying28 rfl (by kernel_rfl) (wanted_of rfl rfl rfl e18) rfl
 ·refine ⟨⟨fun τ=>stableE_det _,leans_not⟩,?_⟩
  intro a w O hk
  have e2:a.eval (.tmp 2)=.slice Av nv cv:=(hk.init 2 (initialB_of_nw nw2)).trans hi2
  have e18:a.eval (.tmp 18)=.bool true:=hk.fact 11 _ 18 rfl rfl rfl rfl
  exact toE (ob_move rfl e2 (wanted_of rfl rfl rfl e18) rfl)
 ·refine ⟨⟨fun τ=>stableE_tm (fun k hk'=>est2_fix (Nat.lt_of_lt_of_le hk' hB) (fun e=>e.elim) (fun e=>e.elim)),leans_not⟩,?_⟩
  intro a w O hk
  have e22:a.eval (.tmp 22)=tmV pa ta:=hk.fact 15 _ 22 rfl rfl rfl rfl
  have e23:a.eval (.tmp 23)=.slice Av nv cv:=hk.fact 16 _ 23 rfl rfl rfl rfl
  have e18:a.eval (.tmp 18)=.bool true:=hk.fact 11 _ 18 rfl rfl rfl rfl
  have x3:=hk.world.still hx3 (fun ⟨_,h⟩=>h.elim And.right And.right)
  have x4:=hk.world.still hx4 (fun ⟨_,h⟩=>h.elim And.right And.right)
  have hfx:∀ k,k<B→w.heap[k]?=w0.heap[k]?:=fun k hk'=>hk.fix k ((fun k hk'=>est2_fix (Nat.lt_of_lt_of_le hk' hB) (fun e=>e.elim) (fun e=>e.elim)) k hk')
  have hsz:=hk.world.size
  have y3:=hin3.same (w':=w) (fun k hk' _=>hfx k hk')
  have y4:=hin4.same (w':=w) (fun k hk' _=>hfx k hk')
  have yv:=LvIn.mono (LvS.same (w':=w) hvs (fun k hk' _=>hfx k hk')) (Nat.le_trans hB hsz)
  exact obE_tmCall #[tmV pa ta,.slice Av nv cv] rfl rfl rfl rfl (by simp only [List.map_cons,List.map_nil];rw [e22,e23];try rfl) (wanted_of rfl rfl rfl e18) ((refInstLv_calls (fun k=>k<B) w.heap.size (fun k h=>Nat.lt_of_lt_of_le h (Nat.le_trans hB hsz)) ta pa Av nv cv vs w (Nat.le_refl _) hn (TmS.mono y3 fun k h _=>h) yv).mono fun e w' ⟨q9,h1,h2,h3⟩=>⟨q9,h1,h2.mono fun k h _=>h.elim (fun h=>.inl (.inl h)) .inr,h3⟩)
 ·refine ⟨⟨fun τ=>stableE_det _,leans_not⟩,?_⟩
  intro a w O hk
  have f21:=hk.fact 14 _ 21 rfl rfl rfl rfl
  have g21:=hk.owns 14 rfl rfl
  have f24:=hk.fact 17 _ 24 rfl rfl rfl rfl
  have g24:=hk.owns 17 rfl rfl
  have e18:a.eval (.tmp 18)=.bool true:=hk.fact 11 _ 18 rfl rfl rfl rfl
  have x3:=hk.world.still hx3 (fun ⟨_,h⟩=>h.elim And.right And.right)
  have x4:=hk.world.still hx4 (fun ⟨_,h⟩=>h.elim And.right And.right)
  have hfx:∀ k,k<B→w.heap[k]?=w0.heap[k]?:=fun k hk'=>hk.fix k ((fun k hk'=>est2_fix (Nat.lt_of_lt_of_le hk' hB) (fun e=>e.elim) (fun e=>e.elim)) k hk')
  have hsz:=hk.world.size
  have y3:=hin3.same (w':=w) (fun k hk' _=>hfx k hk')
  have y4:=hin4.same (w':=w) (fun k hk' _=>hfx k hk')
  have yv:=LvIn.mono (LvS.same (w':=w) hvs (fun k hk' _=>hfx k hk')) (Nat.le_trans hB hsz)
  obtain ⟨q21,z21,h21⟩:=f21
  replace z21:a.eval (.tmp 21)=_:=z21
  obtain ⟨q24,z24,h24⟩:=f24
  replace z24:a.eval (.tmp 24)=_:=z24
  exact obE_callV #[tmV q21 (InstLvT ta vs),tmV q24 (InstLvT ta vs)] rfl rfl rfl rfl (by simp only [List.map_cons,List.map_nil];rw [z21,z24];try rfl) (wanted_of rfl rfl rfl e18) ((alike_calls (InstLvT ta vs) (InstLvT ta vs) q21 q24 w (fun _ _=>TmM.cmp _ _ (Nat.lt_succ_self _) (instLv_m vs hma) _) (TmS.all h21) (TmS.all h24)).mono fun e w' h=>⟨by rw [h.1,alike_refl (InstLvT ta vs)],h.2⟩)
 ·refine ⟨⟨fun τ=>stableE_det _,leans_not⟩,?_⟩
  intro a w O hk
  have e18:a.eval (.tmp 18)=.bool true:=hk.fact 11 _ 18 rfl rfl rfl rfl
  have e25:a.eval (.tmp 25)=.bool true:=hk.fact 18 _ 25 rfl rfl rfl rfl
  have e10:a.eval (.tmp 10)=.bool false:=hk.fact 3 _ 10 rfl rfl rfl rfl
  exact toE (ob_pick rfl e18 e25 (wanted_of rfl rfl rfl e10) rfl)
 ·refine ⟨⟨fun τ=>stableE_det _,leans_not⟩,?_⟩
  intro a w O hk
  have e26:a.eval (.tmp 26)=.bool true:=hk.fact 19 _ 26 rfl rfl rfl rfl
  have e10:a.eval (.tmp 10)=.bool false:=hk.fact 3 _ 10 rfl rfl rfl rfl
  exact toE (ob_move rfl e26 (wanted_of rfl rfl rfl e10) rfl)
 ·refine ⟨⟨fun τ=>stableE_det _,leans_not⟩,?_⟩
  intro a w O hk
  have e27:a.eval (.tmp 27)=.bool true:=hk.fact 20 _ 27 rfl rfl rfl rfl
  have x3:=hk.world.still hx3 (fun ⟨_,h⟩=>h.elim And.right And.right)
  have x4:=hk.world.still hx4 (fun ⟨_,h⟩=>h.elim And.right And.right)
  have hfx:∀ k,k<B→w.heap[k]?=w0.heap[k]?:=fun k hk'=>hk.fix k ((fun k hk'=>est2_fix (Nat.lt_of_lt_of_le hk' hB) (fun e=>e.elim) (fun e=>e.elim)) k hk')
  have hsz:=hk.world.size
  have y3:=hin3.same (w':=w) (fun k hk' _=>hfx k hk')
  have y4:=hin4.same (w':=w) (fun k hk' _=>hfx k hk')
  have yv:=LvIn.mono (LvS.same (w':=w) hvs (fun k hk' _=>hfx k hk')) (Nat.le_trans hB hsz)
  exact obE_callV #[] rfl rfl rfl rfl rfl (wanted_of rfl rfl rfl e27) (awake_calls w)
 ·refine ⟨⟨fun τ=>stableE_det _,leans_not⟩,?_⟩
  intro a w O hk
  have e27:a.eval (.tmp 27)=.bool true:=hk.fact 20 _ 27 rfl rfl rfl rfl
  have e28:a.eval (.tmp 28)=.bool true:=hk.fact 21 _ 28 rfl rfl rfl rfl
  have e10:a.eval (.tmp 10)=.bool false:=hk.fact 3 _ 10 rfl rfl rfl rfl
  exact toE (ob_pick rfl e27 e28 (wanted_of rfl rfl rfl e10) rfl)
 ·refine ⟨⟨fun τ=>stableE_det _,leans_not⟩,?_⟩
  intro a w O hk
  have e10:a.eval (.tmp 10)=.bool false:=hk.fact 3 _ 10 rfl rfl rfl rfl
  have e29:a.eval (.tmp 29)=.bool true:=hk.fact 22 _ 29 rfl rfl rfl rfl
  exact toE (ob_pick rfl e10 e29 (wanted_none rfl) rfl)
 ·refine ⟨⟨fun τ=>stableE_det _,leans_not⟩,?_⟩
  intro a w O hk
  have e30:a.eval (.tmp 30)=.bool true:=hk.fact 23 _ 30 rfl rfl rfl rfl
  exact toE (ob_assign rfl e30 (wanted_none rfl) rfl)
set_option maxRecDepth 100000 in
set_option maxHeartbeats 8000000 in
theorem tib_region {Q:Exit→Act→World→Prop} {id:Nat} (w0:World) (B:Nat) (ga:Nat) (pa:Pl) (ta:Tm) (gb:Nat) (pb:Pl) (tb:Tm) (Av:Option Addr) (nv cv:Nat) (vs:List Lv) {s0 s1 s5 s6 s7 s8 s9 s10 s11 s12 s13 s14 s15 s16 s17 s18 s19 s20 s21 s22 s23 s24 s25 s26 s27 s28 s29 s30:Value} (hB:B≤w0.heap.size) (hx3:w0.heap[ga]?=some (tmO pa ta)) (hin3:TmIn w0 B pa ta) (hx4:w0.heap[gb]?=some (tmO pb tb)) (hin4:TmIn w0 B pb tb) (h20:¬ (20:Int)<(nv:Int)) (hn:nv=vs.length) (hvs:LvIn w0 B Av cv (.mk 0 0 vs)) (hma:TmM ta) (hmb:TmM tb)
  (hend:∀ (w':World) (u13:Value) (u16:Value) (u21:Value) (u24:Value) (O6:Nat→Prop) (O9:Nat→Prop) (O14:Nat→Prop) (O17:Nat→Prop),Chg (fun k=>False∨False) w0 w'→(TmO (fun k=>k<B) (InstT ta tb) u13 w' O6)→(∀ k,O6 k→k<w'.heap.size∧¬ Fix w0 (est2 0 0 (fun _=>False) (fun _=>False)) k)→(TmO (fun k=>k<B) (InstR ta tb) u16 w' O9)→(∀ k,O9 k→k<w'.heap.size∧¬ Fix w0 (est2 0 0 (fun _=>False) (fun _=>False)) k)→(TmO (fun k=>k<B) (InstLvT ta vs) u21 w' O14)→(∀ k,O14 k→k<w'.heap.size∧¬ Fix w0 (est2 0 0 (fun _=>False) (fun _=>False)) k)→(TmO (fun k=>k<B) (InstLvT ta vs) u24 w' O17)→(∀ k,O17 k→k<w'.heap.size∧¬ Fix w0 (est2 0 0 (fun _=>False) (fun _=>False)) k)→Q .normal { tmps:=(s0 :: s1 :: (.slice Av nv cv) :: (.pointer (some ⟨ga,0,none⟩)) :: (.pointer (some ⟨gb,0,none⟩)) :: s5 :: (.bool true) :: (.slice Av nv cv) :: (.int .i64 nv) :: (.bool false) :: (.bool false) :: (tmV pa ta) :: (tmV pb tb) :: u13 :: (tmV pa ta) :: (tmV pb tb) :: u16 :: (.bool true) :: (.bool true) :: (tmV pa ta) :: (.slice Av nv cv) :: u21 :: (tmV pa ta) :: (.slice Av nv cv) :: u24 :: (.bool true) :: (.bool true) :: (.bool true) :: (.bool true) :: (.bool true) :: (.bool true) :: []:List Value).toArray,defers:=[] } w') :
  (Code.region id tia_ops.toArray true).wp Try.prog Q { tmps:=(s0 :: s1 :: (.slice Av nv cv) :: (.pointer (some ⟨ga,0,none⟩)) :: (.pointer (some ⟨gb,0,none⟩)) :: s5 :: s6 :: s7 :: s8 :: s9 :: s10 :: s11 :: s12 :: s13 :: s14 :: s15 :: s16 :: s17 :: s18 :: s19 :: s20 :: s21 :: s22 :: s23 :: s24 :: s25 :: s26 :: s27 :: s28 :: s29 :: s30 :: []:List Value).toArray,defers:=[] } w0:=by
 refine wp_region_est (by kernel_rfl) (est2 0 0 (fun _=>False) (fun _=>False)) tib_C (tib_F w0 B ga pa ta gb pb tb Av nv cv vs) (est2_dis (fun _ h _=>h)) (est2_range (fun _ h=>h.elim) (fun _ h=>h.elim)) (by rfl) (by kernel_rfl) (tib_obs w0.drew B ga pa ta gb pb tb Av nv cv vs hB hx3 (TmS.same hin3 (fun _ _ _=>rfl)) hx4 (TmS.same hin4 (fun _ _ _=>rfl)) h20 hn (LvS.same hvs (fun _ _ _=>rfl)) hma hmb _ _ rfl rfl rfl) ?_
 intro a w' O hd hs hb hf hf2 ha hsame
 have hl:=slots_eq (ops:=tia_ops.toArray) [(6,.bool true),(7,.slice Av nv cv),(8,.int .i64 nv),(9,.bool false),(10,.bool false),(11,tmV pa ta),(12,tmV pb tb),(13,a.tmps.getD 13 undef),(14,tmV pa ta),(15,tmV pb tb),(16,a.tmps.getD 16 undef),(17,.bool true),(18,.bool true),(19,tmV pa ta),(20,.slice Av nv cv),(21,a.tmps.getD 21 undef),(22,tmV pa ta),(23,.slice Av nv cv),(24,a.tmps.getD 24 undef),(25,.bool true),(26,.bool true),(27,.bool true),(28,.bool true),(29,.bool true),(30,.bool true)] (show a.tmps.size=31 from hs) (fun i h=>hsame i h) ⟨(hf 24 _ 6 rfl rfl (by decide)).1,(hf 0 _ 7 rfl rfl (by decide)).1,(hf 1 _ 8 rfl rfl (by decide)).1,(hf 2 _ 9 rfl rfl (by decide)).1,(hf 3 _ 10 rfl rfl (by decide)).1,(hf 4 _ 11 rfl rfl (by decide)).1,(hf 5 _ 12 rfl rfl (by decide)).1,rfl,(hf 7 _ 14 rfl rfl (by decide)).1,(hf 8 _ 15 rfl rfl (by decide)).1,rfl,(hf 10 _ 17 rfl rfl (by decide)).1,(hf 11 _ 18 rfl rfl (by decide)).1,(hf 12 _ 19 rfl rfl (by decide)).1,(hf 13 _ 20 rfl rfl (by decide)).1,rfl,(hf 15 _ 22 rfl rfl (by decide)).1,(hf 16 _ 23 rfl rfl (by decide)).1,rfl,(hf 18 _ 25 rfl rfl (by decide)).1,(hf 19 _ 26 rfl rfl (by decide)).1,(hf 20 _ 27 rfl rfl (by decide)).1,(hf 21 _ 28 rfl rfl (by decide)).1,(hf 22 _ 29 rfl rfl (by decide)).1,(hf 23 _ 30 rfl rfl (by decide)).1,trivial⟩ (by kernel_rfl)
 obtain ⟨tmps,defers⟩:=a
 obtain rfl:defers=[]:=hd
 have hl':tmps=_:=hl
 rw [hl']
 have hb':=est2_chg hb
 refine Eq.mp ?_ (hend w' (tmps.getD 13 undef) (tmps.getD 16 undef) (tmps.getD 21 undef) (tmps.getD 24 undef) (O 6) (O 9) (O 14) (O 17) ⟨hb'.os,hb'.tape,hb'.output,hb'.size,hb'.block⟩ (hf 6 _ 13 rfl rfl (by decide)).1 (hf 6 _ 13 rfl rfl (by decide)).2 (hf 9 _ 16 rfl rfl (by decide)).1 (hf 9 _ 16 rfl rfl (by decide)).2 (hf 14 _ 21 rfl rfl (by decide)).1 (hf 14 _ 21 rfl rfl (by decide)).2 (hf 17 _ 24 rfl rfl (by decide)).1 (hf 17 _ 24 rfl rfl (by decide)).2)
 kernel_rfl

set_option maxRecDepth 100000 in
set_option maxHeartbeats 4000000 in
theorem termInst_calls (a b:Tm) (pa pb:Pl) (Av:Option Addr) (nv cv:Nat) (vs:List Lv) (w:World) (hina:TmIn w w.heap.size pa a) (hinb:TmIn w w.heap.size pb b) (hvs:LvIn w w.heap.size Av cv (.mk 0 0 vs)) (hn:nv=vs.length) (hma:TmM a) (hmb:TmM b) :
  Calls Try.prog 10 #[tmV pa a,tmV pb b,.slice Av nv cv] w fun e w'=>e=.returned (.bool true)∧Below w.heap.size w w':=by
 obtain ⟨W,hW⟩:∃ W,W=(w.alloc (tmO pa a)).alloc (tmO pb b):=⟨_,rfl⟩
 have hb:Below w.heap.size w W:=by rw [hW];exact below_alloc (below_alloc (Below.refl _ _) _) _
 have HX:=Ak (show W.heap[w.heap.size]?=some (tmO pa a) by rw [hW];exact box0 w _ _)
 have HY:=Ak (show W.heap[w.heap.size+1]?=some (tmO pb b) by rw [hW];exact box1 w _ _)
 have HA:=Ak (hina.stay hb)
 have HC:=Ak (hinb.stay hb)
 have HV:=Ak (hvs.stay hb)
 have HN:=Ak hn
 have HB:=Ak hb
 clear hina hinb hb hvs hn
 unfold tmV
 unfold tmO at hW
 go_enter Try.func10,Try.ntmps10
 go_upto_region 1 with (fail)
 rw [← hW]
 clear hW
 by_cases h20:(20:Int)<(nv:Int)
 ·refine tia_region W w.heap.size w.heap.size pa a (w.heap.size+1) pb b Av nv cv vs HB.out.size HX.out HA.out HY.out HC.out h20 HN.out HV.out hma hmb ?_
  intro w1 hch
  have HB1:=Ak (below_then HB.out HB.out.size (hch.below (fun _ h=>h.elim False.elim False.elim) (Nat.le_refl _)))
  clear hch
  go_wp2
  go_ret
  exact ⟨rfl,HB1.out⟩
 ·refine tib_region W w.heap.size w.heap.size pa a (w.heap.size+1) pb b Av nv cv vs HB.out.size HX.out HA.out HY.out HC.out h20 HN.out HV.out hma hmb ?_
  intro w1 u13 u16 u21 u24 O6 O9 O14 O17 hch
  intros
  have HB1:=Ak (below_then HB.out HB.out.size (hch.below (fun _ h=>h.elim False.elim False.elim) (Nat.le_refl _)))
  clear hch
  go_wp2
  go_ret
  exact ⟨rfl,HB1.out⟩

end Go.Proofs.Ytdboloabpjmgaaa
