/-
  Merged: SmR, SimC, Same, SameC, SlB, SeW, NrRl, Near, RwkG, RLG, RPG, Men, EnU, Db, RIG, RIH, Alik, LvIn, TmInT, TmInM, NiP, NiQ, OpsL, Lq, Ord, OpsP, Val, Lvl, LvlW, Red, InstP, NiL, Inst, InR, InW.
-/
import Derived.Deep.Slices
import Derived.ChangeArms
import Derived.Test.YtdboloabpjmgaaaMInst3
namespace Go.Proofs.Ytdboloabpjmgaaa
open Go.RowKit Go.Proofs.YtdboloabpjmgaaaW.PrintWords Go.RegionInvYtdboloabpjmgaaa Go.RegionEYtdboloabpjmgaaa
set_option linter.unusedVariables false

def sm_ops:List Oper:=[
 { dst:=some 49,op:=Go.Op.fieldAddr 25 (Go.Operand.tmp 3) 2,type:=0,pos:= "ref.go:253",after:=#[],guard:=none },
 { dst:=some 50,op:=Go.Op.load 23 (Go.Operand.tmp 49),type:=23,pos:= "ref.go:253",after:=#[{ on:=0,ground:=Go.Ground.data }],guard:=none },
 { dst:=some 51,op:=Go.Op.move (Go.Operand.tmp 7),type:=3,pos:= "ref.go:253",after:=#[],guard:=none },
 { dst:=some 52,op:=Go.Op.indexAddr 23 (Go.Operand.tmp 50) (Go.Operand.tmp 51),type:=0,pos:= "ref.go:253",after:=#[{ on:=1,ground:=Go.Ground.data },{ on:=2,ground:=Go.Ground.data }],guard:=none },
 { dst:=some 53,op:=Go.Op.load 25 (Go.Operand.tmp 52),type:=25,pos:= "ref.go:253",after:=#[{ on:=3,ground:=Go.Ground.data }],guard:=none },
 { dst:=some 54,op:=Go.Op.fieldAddr 25 (Go.Operand.tmp 4) 2,type:=0,pos:= "ref.go:253",after:=#[],guard:=none },
 { dst:=some 55,op:=Go.Op.load 23 (Go.Operand.tmp 54),type:=23,pos:= "ref.go:253",after:=#[{ on:=5,ground:=Go.Ground.data }],guard:=none },
 { dst:=some 56,op:=Go.Op.move (Go.Operand.tmp 7),type:=3,pos:= "ref.go:253",after:=#[],guard:=none },
 { dst:=some 57,op:=Go.Op.indexAddr 23 (Go.Operand.tmp 55) (Go.Operand.tmp 56),type:=0,pos:= "ref.go:253",after:=#[{ on:=6,ground:=Go.Ground.data },{ on:=7,ground:=Go.Ground.data }],guard:=none },
 { dst:=some 58,op:=Go.Op.load 25 (Go.Operand.tmp 57),type:=25,pos:= "ref.go:253",after:=#[{ on:=8,ground:=Go.Ground.data }],guard:=none },
 { dst:=some 59,op:=Go.Op.move (Go.Operand.tmp 2),type:=73,pos:= "ref.go:253",after:=#[],guard:=none },
 { dst:=some 60,op:=Go.Op.call { callee:=Go.Callee.value (Go.Operand.func 102),args:=#[Go.Operand.tmp 53,Go.Operand.tmp 58,Go.Operand.tmp 59],argTypes:=#[25,25,73] },type:=4,pos:= "ref.go:253",after:=#[{ on:=4,ground:=Go.Ground.data },{ on:=9,ground:=Go.Ground.data },{ on:=10,ground:=Go.Ground.data }],guard:=none },
 { dst:=some 61,op:=Go.Op.unOp Go.UnOp.not 4 (Go.Operand.tmp 60),type:=4,pos:= "ref.go:253",after:=#[{ on:=11,ground:=Go.Ground.data }],guard:=none }]
def sm_F (w0:World) (g b:Nat) (i:Nat) (k1 n1 k2 n2:Int) (ga oa gd od m ca cd:Nat) (xk xn yk yn:Int) (A1 A2:Option Addr) (m1 c1 m2 c2:Nat) (r:Bool) (cnt1:Int):Nat→(Nat→Value)→Value→World→(Nat→Prop)→Prop:=fun rix=>match rix with
 | 0=>fun _ v _ _=>v=.pointer (some ⟨b,2,none⟩)
 | 1=>fun _ v _ _=>v=.slice (some ⟨ga,oa,none⟩) m ca
 | 2=>fun _ v _ _=>v=.int .i64 i
 | 3=>fun _ v _ _=>v=.pointer (some ⟨ga,oa+i * 3,none⟩)
 | 4=>fun _ v _ _=>v=.agg #[.int .i64 xk,.int .i64 xn,.slice A1 m1 c1]
 | 5=>fun _ v _ _=>v=.pointer (some ⟨b+1,2,none⟩)
 | 6=>fun _ v _ _=>v=.slice (some ⟨gd,od,none⟩) m cd
 | 7=>fun _ v _ _=>v=.int .i64 i
 | 8=>fun _ v _ _=>v=.pointer (some ⟨gd,od+i * 3,none⟩)
 | 9=>fun _ v _ _=>v=.agg #[.int .i64 yk,.int .i64 yn,.slice A2 m2 c2]
 | 10=>fun _ v _ _=>v=.pointer (some ⟨g,0,none⟩)
 | 11=>fun τ v w O=>(v=.bool r∧O g∧∃ s',NumAt w g s'∧(r=true→s'=cnt1))
 | 12=>fun _ v _ _=>v=.bool (!r)
 | _=>fun _ _ _ _=>True
def sm_C:Nat→List Nat:=fun rix=>match rix with
 | _=>[]
theorem sm_nw2:nwB sm_ops.toArray 2=true:=by kernel_rfl
theorem sm_nw3:nwB sm_ops.toArray 3=true:=by kernel_rfl
theorem sm_nw4:nwB sm_ops.toArray 4=true:=by kernel_rfl
theorem sm_nw7:nwB sm_ops.toArray 7=true:=by kernel_rfl
set_option maxRecDepth 100000 in
set_option maxHeartbeats 8000000 in
theorem sm_obs (w0:World) (g b:Nat) (i:Nat) (k1 n1 k2 n2:Int) (ga oa gd od m ca cd:Nat) (xk xn yk yn:Int) (A1 A2:Option Addr) (m1 c1 m2 c2:Nat) (r:Bool) (cnt1:Int) (hx3:w0.heap[b]?=some (.cells #[.int .i64 k1,.int .i64 n1,.slice (some ⟨ga,oa,none⟩) m ca] 25 (0,0))) (hx4:w0.heap[b+1]?=some (.cells #[.int .i64 k2,.int .i64 n2,.slice (some ⟨gd,od,none⟩) m cd] 25 (0,0))) (hgb:g<b) (hga:ga<w0.heap.size) (hgag:ga≠g) (hgd:gd<w0.heap.size) (hgdg:gd≠g) (him:i<m) (hc0:w0.cell? ⟨ga,oa+i * 3,none⟩=some (.int .i64 xk)) (hc1:w0.cell? ⟨ga,oa+i * 3+1,none⟩=some (.int .i64 xn)) (hc2:w0.cell? ⟨ga,oa+i * 3+2,none⟩=some (.slice A1 m1 c1)) (hd0:w0.cell? ⟨gd,od+i * 3,none⟩=some (.int .i64 yk)) (hd1:w0.cell? ⟨gd,od+i * 3+1,none⟩=some (.int .i64 yn)) (hd2:w0.cell? ⟨gd,od+i * 3+2,none⟩=some (.slice A2 m2 c2)) {cnt0:Int} (hg:NumAt w0 g cnt0) (hrec:∀ w,(∀ k,k<w0.heap.size→k≠g→w.heap[k]?=w0.heap[k]?)→NumAt w g cnt0→w0.heap.size≤w.heap.size→Calls Try.prog 102 #[.agg #[.int .i64 xk,.int .i64 xn,.slice A1 m1 c1],.agg #[.int .i64 yk,.int .i64 yn,.slice A2 m2 c2],.pointer (some ⟨g,0,none⟩)] w (SamePost w g r cnt1)) (Q:Exit→Act→World→Prop) (a0:Act) (hi2:a0.tmps.getD 2 undef=.pointer (some ⟨g,0,none⟩)) (hi3:a0.tmps.getD 3 undef=.pointer (some ⟨b,0,none⟩)) (hi4:a0.tmps.getD 4 undef=.pointer (some ⟨b+1,0,none⟩)) (hi7:a0.tmps.getD 7 undef=.int .i64 i) :
  ObsE Try.prog sm_ops.toArray Q (est2 11 0 (fun k=>k=g) (fun _=>False)) sm_C (sm_F w0 g b i k1 n1 k2 n2 ga oa gd od m ca cd xk xn yk yn A1 A2 m1 c1 m2 c2 r cnt1) a0 w0 sm_ops.toArray.toList 0:=by
 have nw2:=sm_nw2
 have nw3:=sm_nw3
 have nw4:=sm_nw4
 have nw7:=sm_nw7
 refine ⟨?_,?_,?_,?_,?_,?_,?_,?_,?_,?_,?_,?_,?_,trivial⟩
 ·refine ⟨⟨fun τ=>stableE_det _,leans_not⟩,?_⟩
  intro a w O hk
  have e3:a.eval (.tmp 3)=.pointer (some ⟨b,0,none⟩):=(hk.init 3 (initialB_of_nw nw3)).trans hi3
  exact obE_run (wanted_none rfl) (by unfold execOp;simp only [];rw [e3];go_simp) rfl
 ·refine ⟨⟨fun τ=>stableE_det _,leans_not⟩,?_⟩
  intro a w O hk
  have e49:a.eval (.tmp 49)=.pointer (some ⟨b,2,none⟩):=hk.fact 0 _ 49 rfl rfl rfl rfl
  have x3:=hk.world.still hx3 (fun ⟨_,h⟩=>h.elim (fun h=>by have:b=g:=h.2;omega) And.right)
  have x4:=hk.world.still hx4 (fun ⟨_,h⟩=>h.elim (fun h=>by have:b+1=g:=h.2;omega) And.right)
  obtain ⟨p0,p1,p2,-,-,-⟩:=row3 x3
  obtain ⟨q0,q1,q2,-,-,-⟩:=row3 x4
  have hfx:∀ k,k<w0.heap.size→k≠g→w.heap[k]?=w0.heap[k]?:=fun k hkb hkg=>hk.fix k (est2_fix hkb (fun h=>hkg h) (fun h=>h))
  have hcc:∀ j,w.cell? ⟨ga,j,none⟩=w0.cell? ⟨ga,j,none⟩:=fun j=>cell_same (hfx _ hga hgag)
  have hcd:∀ j,w.cell? ⟨gd,j,none⟩=w0.cell? ⟨gd,j,none⟩:=fun j=>cell_same (hfx _ hgd hgdg)
  have r0:=(hcc _).trans hc0
  have r1:=(hcc _).trans hc1
  have r2:=(hcc _).trans hc2
  have t0:=(hcd _).trans hd0
  have t1:=(hcd _).trans hd1
  have t2:=(hcd _).trans hd2
  exact obE_run (wanted_none rfl) (by unfold execOp;simp only [];rw [e49];go_simp) rfl
 ·refine ⟨⟨fun τ=>stableE_det _,leans_not⟩,?_⟩
  intro a w O hk
  have e7:a.eval (.tmp 7)=.int .i64 i:=(hk.init 7 (initialB_of_nw nw7)).trans hi7
  exact toE (ob_move rfl e7 (wanted_none rfl) rfl)
 ·refine ⟨⟨fun τ=>stableE_det _,leans_not⟩,?_⟩
  intro a w O hk
  have e50:a.eval (.tmp 50)=.slice (some ⟨ga,oa,none⟩) m ca:=hk.fact 1 _ 50 rfl rfl rfl rfl
  have e51:a.eval (.tmp 51)=.int .i64 i:=hk.fact 2 _ 51 rfl rfl rfl rfl
  have x3:=hk.world.still hx3 (fun ⟨_,h⟩=>h.elim (fun h=>by have:b=g:=h.2;omega) And.right)
  have x4:=hk.world.still hx4 (fun ⟨_,h⟩=>h.elim (fun h=>by have:b+1=g:=h.2;omega) And.right)
  obtain ⟨p0,p1,p2,-,-,-⟩:=row3 x3
  obtain ⟨q0,q1,q2,-,-,-⟩:=row3 x4
  have hfx:∀ k,k<w0.heap.size→k≠g→w.heap[k]?=w0.heap[k]?:=fun k hkb hkg=>hk.fix k (est2_fix hkb (fun h=>hkg h) (fun h=>h))
  have hcc:∀ j,w.cell? ⟨ga,j,none⟩=w0.cell? ⟨ga,j,none⟩:=fun j=>cell_same (hfx _ hga hgag)
  have hcd:∀ j,w.cell? ⟨gd,j,none⟩=w0.cell? ⟨gd,j,none⟩:=fun j=>cell_same (hfx _ hgd hgdg)
  have r0:=(hcc _).trans hc0
  have r1:=(hcc _).trans hc1
  have r2:=(hcc _).trans hc2
  have t0:=(hcd _).trans hd0
  have t1:=(hcd _).trans hd1
  have t2:=(hcd _).trans hd2
  exact obE_run (wanted_none rfl) (by unfold execOp;simp only [];rw [e50,e51];go_simp) rfl
 ·refine ⟨⟨fun τ=>stableE_det _,leans_not⟩,?_⟩
  intro a w O hk
  have e52:a.eval (.tmp 52)=.pointer (some ⟨ga,oa+i * 3,none⟩):=hk.fact 3 _ 52 rfl rfl rfl rfl
  have x3:=hk.world.still hx3 (fun ⟨_,h⟩=>h.elim (fun h=>by have:b=g:=h.2;omega) And.right)
  have x4:=hk.world.still hx4 (fun ⟨_,h⟩=>h.elim (fun h=>by have:b+1=g:=h.2;omega) And.right)
  obtain ⟨p0,p1,p2,-,-,-⟩:=row3 x3
  obtain ⟨q0,q1,q2,-,-,-⟩:=row3 x4
  have hfx:∀ k,k<w0.heap.size→k≠g→w.heap[k]?=w0.heap[k]?:=fun k hkb hkg=>hk.fix k (est2_fix hkb (fun h=>hkg h) (fun h=>h))
  have hcc:∀ j,w.cell? ⟨ga,j,none⟩=w0.cell? ⟨ga,j,none⟩:=fun j=>cell_same (hfx _ hga hgag)
  have hcd:∀ j,w.cell? ⟨gd,j,none⟩=w0.cell? ⟨gd,j,none⟩:=fun j=>cell_same (hfx _ hgd hgdg)
  have r0:=(hcc _).trans hc0
  have r1:=(hcc _).trans hc1
  have r2:=(hcc _).trans hc2
  have t0:=(hcd _).trans hd0
  have t1:=(hcd _).trans hd1
  have t2:=(hcd _).trans hd2
  exact obE_run (wanted_none rfl) (by unfold execOp;simp only [];rw [e52];go_simp) rfl
 ·refine ⟨⟨fun τ=>stableE_det _,leans_not⟩,?_⟩
  intro a w O hk
  have e4:a.eval (.tmp 4)=.pointer (some ⟨b+1,0,none⟩):=(hk.init 4 (initialB_of_nw nw4)).trans hi4
  exact obE_run (wanted_none rfl) (by unfold execOp;simp only [];rw [e4];go_simp) rfl
 ·refine ⟨⟨fun τ=>stableE_det _,leans_not⟩,?_⟩
  intro a w O hk
  have e54:a.eval (.tmp 54)=.pointer (some ⟨b+1,2,none⟩):=hk.fact 5 _ 54 rfl rfl rfl rfl
  have x3:=hk.world.still hx3 (fun ⟨_,h⟩=>h.elim (fun h=>by have:b=g:=h.2;omega) And.right)
  have x4:=hk.world.still hx4 (fun ⟨_,h⟩=>h.elim (fun h=>by have:b+1=g:=h.2;omega) And.right)
  obtain ⟨p0,p1,p2,-,-,-⟩:=row3 x3
  obtain ⟨q0,q1,q2,-,-,-⟩:=row3 x4
  have hfx:∀ k,k<w0.heap.size→k≠g→w.heap[k]?=w0.heap[k]?:=fun k hkb hkg=>hk.fix k (est2_fix hkb (fun h=>hkg h) (fun h=>h))
  have hcc:∀ j,w.cell? ⟨ga,j,none⟩=w0.cell? ⟨ga,j,none⟩:=fun j=>cell_same (hfx _ hga hgag)
  have hcd:∀ j,w.cell? ⟨gd,j,none⟩=w0.cell? ⟨gd,j,none⟩:=fun j=>cell_same (hfx _ hgd hgdg)
  have r0:=(hcc _).trans hc0
  have r1:=(hcc _).trans hc1
  have r2:=(hcc _).trans hc2
  have t0:=(hcd _).trans hd0
  have t1:=(hcd _).trans hd1
  have t2:=(hcd _).trans hd2
  exact obE_run (wanted_none rfl) (by unfold execOp;simp only [];rw [e54];go_simp) rfl
 ·refine ⟨⟨fun τ=>stableE_det _,leans_not⟩,?_⟩
  intro a w O hk
  have e7:a.eval (.tmp 7)=.int .i64 i:=(hk.init 7 (initialB_of_nw nw7)).trans hi7
  exact toE (ob_move rfl e7 (wanted_none rfl) rfl)
 ·refine ⟨⟨fun τ=>stableE_det _,leans_not⟩,?_⟩
  intro a w O hk
  have e55:a.eval (.tmp 55)=.slice (some ⟨gd,od,none⟩) m cd:=hk.fact 6 _ 55 rfl rfl rfl rfl
  have e56:a.eval (.tmp 56)=.int .i64 i:=hk.fact 7 _ 56 rfl rfl rfl rfl
  have x3:=hk.world.still hx3 (fun ⟨_,h⟩=>h.elim (fun h=>by have:b=g:=h.2;omega) And.right)
  have x4:=hk.world.still hx4 (fun ⟨_,h⟩=>h.elim (fun h=>by have:b+1=g:=h.2;omega) And.right)
  obtain ⟨p0,p1,p2,-,-,-⟩:=row3 x3
  obtain ⟨q0,q1,q2,-,-,-⟩:=row3 x4
  have hfx:∀ k,k<w0.heap.size→k≠g→w.heap[k]?=w0.heap[k]?:=fun k hkb hkg=>hk.fix k (est2_fix hkb (fun h=>hkg h) (fun h=>h))
  have hcc:∀ j,w.cell? ⟨ga,j,none⟩=w0.cell? ⟨ga,j,none⟩:=fun j=>cell_same (hfx _ hga hgag)
  have hcd:∀ j,w.cell? ⟨gd,j,none⟩=w0.cell? ⟨gd,j,none⟩:=fun j=>cell_same (hfx _ hgd hgdg)
  have r0:=(hcc _).trans hc0
  have r1:=(hcc _).trans hc1
  have r2:=(hcc _).trans hc2
  have t0:=(hcd _).trans hd0
  have t1:=(hcd _).trans hd1
  have t2:=(hcd _).trans hd2
  exact obE_run (wanted_none rfl) (by unfold execOp;simp only [];rw [e55,e56];go_simp) rfl
 ·refine ⟨⟨fun τ=>stableE_det _,leans_not⟩,?_⟩
  intro a w O hk
  have e57:a.eval (.tmp 57)=.pointer (some ⟨gd,od+i * 3,none⟩):=hk.fact 8 _ 57 rfl rfl rfl rfl
  have x3:=hk.world.still hx3 (fun ⟨_,h⟩=>h.elim (fun h=>by have:b=g:=h.2;omega) And.right)
  have x4:=hk.world.still hx4 (fun ⟨_,h⟩=>h.elim (fun h=>by have:b+1=g:=h.2;omega) And.right)
  obtain ⟨p0,p1,p2,-,-,-⟩:=row3 x3
  obtain ⟨q0,q1,q2,-,-,-⟩:=row3 x4
  have hfx:∀ k,k<w0.heap.size→k≠g→w.heap[k]?=w0.heap[k]?:=fun k hkb hkg=>hk.fix k (est2_fix hkb (fun h=>hkg h) (fun h=>h))
  have hcc:∀ j,w.cell? ⟨ga,j,none⟩=w0.cell? ⟨ga,j,none⟩:=fun j=>cell_same (hfx _ hga hgag)
  have hcd:∀ j,w.cell? ⟨gd,j,none⟩=w0.cell? ⟨gd,j,none⟩:=fun j=>cell_same (hfx _ hgd hgdg)
  have r0:=(hcc _).trans hc0
  have r1:=(hcc _).trans hc1
  have r2:=(hcc _).trans hc2
  have t0:=(hcd _).trans hd0
  have t1:=(hcd _).trans hd1
  have t2:=(hcd _).trans hd2
  exact obE_run (wanted_none rfl) (by unfold execOp;simp only [];rw [e57];go_simp) rfl
 ·refine ⟨⟨fun τ=>stableE_det _,leans_not⟩,?_⟩
  intro a w O hk
  have e2:a.eval (.tmp 2)=.pointer (some ⟨g,0,none⟩):=(hk.init 2 (initialB_of_nw nw2)).trans hi2
  exact toE (ob_move rfl e2 (wanted_none rfl) rfl)
 ·refine ⟨⟨fun τ=>fun v w w' O h hz hk=>⟨h.1,h.2.1,by obtain ⟨s',h1,h2⟩:=h.2.2;exact ⟨s',(hk g (blk_lt h1) (.inr h.2.1)).trans h1,h2⟩⟩,leans_not⟩,?_⟩
  intro a w O hk
  have e53:a.eval (.tmp 53)=.agg #[.int .i64 xk,.int .i64 xn,.slice A1 m1 c1]:=hk.fact 4 _ 53 rfl rfl rfl rfl
  have e58:a.eval (.tmp 58)=.agg #[.int .i64 yk,.int .i64 yn,.slice A2 m2 c2]:=hk.fact 9 _ 58 rfl rfl rfl rfl
  have e59:a.eval (.tmp 59)=.pointer (some ⟨g,0,none⟩):=hk.fact 10 _ 59 rfl rfl rfl rfl
  have x3:=hk.world.still hx3 (fun ⟨_,h⟩=>h.elim (fun h=>by have:b=g:=h.2;omega) And.right)
  have x4:=hk.world.still hx4 (fun ⟨_,h⟩=>h.elim (fun h=>by have:b+1=g:=h.2;omega) And.right)
  obtain ⟨p0,p1,p2,-,-,-⟩:=row3 x3
  obtain ⟨q0,q1,q2,-,-,-⟩:=row3 x4
  have hfx:∀ k,k<w0.heap.size→k≠g→w.heap[k]?=w0.heap[k]?:=fun k hkb hkg=>hk.fix k (est2_fix hkb (fun h=>hkg h) (fun h=>h))
  have hcc:∀ j,w.cell? ⟨ga,j,none⟩=w0.cell? ⟨ga,j,none⟩:=fun j=>cell_same (hfx _ hga hgag)
  have hcd:∀ j,w.cell? ⟨gd,j,none⟩=w0.cell? ⟨gd,j,none⟩:=fun j=>cell_same (hfx _ hgd hgdg)
  have r0:=(hcc _).trans hc0
  have r1:=(hcc _).trans hc1
  have r2:=(hcc _).trans hc2
  have t0:=(hcd _).trans hd0
  have t1:=(hcd _).trans hd1
  have t2:=(hcd _).trans hd2
  refine obE_call #[.agg #[.int .i64 xk,.int .i64 xn,.slice A1 m1 c1],.agg #[.int .i64 yk,.int .i64 yn,.slice A2 m2 c2],.pointer (some ⟨g,0,none⟩)] rfl rfl rfl rfl (by simp only [List.map_cons,List.map_nil];rw [e53,e58,e59]) (wanted_none rfl) ((hrec w hfx ((hk.est 11 _ rfl (.inl rfl) g (.inl ⟨rfl,rfl⟩)).trans hg) hk.world.size).mono ?_)
  rintro e w' ⟨rfl,hn,hc⟩
  exact ⟨_,fun k=>k=g,rfl,⟨rfl,rfl,hn⟩,hc.mono fun k h=>.inr (.inl ⟨rfl,h⟩),fun k h=>.inl (.inr (.inl ⟨rfl,h⟩))⟩
 ·refine ⟨⟨fun τ=>stableE_det _,leans_not⟩,?_⟩
  intro a w O hk
  have f60:=hk.fact 11 _ 60 rfl rfl rfl rfl
  have g60:=hk.owns 11 rfl rfl
  have x3:=hk.world.still hx3 (fun ⟨_,h⟩=>h.elim (fun h=>by have:b=g:=h.2;omega) And.right)
  have x4:=hk.world.still hx4 (fun ⟨_,h⟩=>h.elim (fun h=>by have:b+1=g:=h.2;omega) And.right)
  obtain ⟨p0,p1,p2,-,-,-⟩:=row3 x3
  obtain ⟨q0,q1,q2,-,-,-⟩:=row3 x4
  have hfx:∀ k,k<w0.heap.size→k≠g→w.heap[k]?=w0.heap[k]?:=fun k hkb hkg=>hk.fix k (est2_fix hkb (fun h=>hkg h) (fun h=>h))
  have hcc:∀ j,w.cell? ⟨ga,j,none⟩=w0.cell? ⟨ga,j,none⟩:=fun j=>cell_same (hfx _ hga hgag)
  have hcd:∀ j,w.cell? ⟨gd,j,none⟩=w0.cell? ⟨gd,j,none⟩:=fun j=>cell_same (hfx _ hgd hgdg)
  have r0:=(hcc _).trans hc0
  have r1:=(hcc _).trans hc1
  have r2:=(hcc _).trans hc2
  have t0:=(hcd _).trans hd0
  have t1:=(hcd _).trans hd1
  have t2:=(hcd _).trans hd2
  have e60:a.eval (.tmp 60)=.bool r:=f60.1
  exact obE_run (wanted_none rfl) (by unfold execOp;simp only [];rw [e60];go_simp) rfl
set_option maxRecDepth 100000 in
set_option maxHeartbeats 8000000 in
theorem sm_region {Q:Exit→Act→World→Prop} {id:Nat} (w0:World) (g b:Nat) (i:Nat) (k1 n1 k2 n2:Int) (ga oa gd od m ca cd:Nat) (xk xn yk yn:Int) (A1 A2:Option Addr) (m1 c1 m2 c2:Nat) (r:Bool) (cnt1:Int) {s0 s1 s5 s6 s8 s9 s10 s11 s12 s13 s14 s15 s16 s17 s18 s19 s20 s21 s22 s23 s24 s25 s26 s27 s28 s29 s30 s31 s32 s33 s34 s35 s36 s37 s38 s39 s40 s41 s42 s43 s44 s45 s46 s47 s48 s49 s50 s51 s52 s53 s54 s55 s56 s57 s58 s59 s60 s61 s62:Value} (hx3:w0.heap[b]?=some (.cells #[.int .i64 k1,.int .i64 n1,.slice (some ⟨ga,oa,none⟩) m ca] 25 (0,0))) (hx4:w0.heap[b+1]?=some (.cells #[.int .i64 k2,.int .i64 n2,.slice (some ⟨gd,od,none⟩) m cd] 25 (0,0))) (hgb:g<b) (hga:ga<w0.heap.size) (hgag:ga≠g) (hgd:gd<w0.heap.size) (hgdg:gd≠g) (him:i<m) (hc0:w0.cell? ⟨ga,oa+i * 3,none⟩=some (.int .i64 xk)) (hc1:w0.cell? ⟨ga,oa+i * 3+1,none⟩=some (.int .i64 xn)) (hc2:w0.cell? ⟨ga,oa+i * 3+2,none⟩=some (.slice A1 m1 c1)) (hd0:w0.cell? ⟨gd,od+i * 3,none⟩=some (.int .i64 yk)) (hd1:w0.cell? ⟨gd,od+i * 3+1,none⟩=some (.int .i64 yn)) (hd2:w0.cell? ⟨gd,od+i * 3+2,none⟩=some (.slice A2 m2 c2)) {cnt0:Int} (hg:NumAt w0 g cnt0) (hrec:∀ w,(∀ k,k<w0.heap.size→k≠g→w.heap[k]?=w0.heap[k]?)→NumAt w g cnt0→w0.heap.size≤w.heap.size→Calls Try.prog 102 #[.agg #[.int .i64 xk,.int .i64 xn,.slice A1 m1 c1],.agg #[.int .i64 yk,.int .i64 yn,.slice A2 m2 c2],.pointer (some ⟨g,0,none⟩)] w (SamePost w g r cnt1))
  (hend:∀ (w':World) (u60:Value) (O11:Nat→Prop),Chg (fun k=>(fun k=>k=g) k∨(fun _=>False) k) w0 w'→((u60=.bool r∧O11 g∧∃ s',NumAt w' g s'∧(r=true→s'=cnt1)))→(∀ k,O11 k→k<w'.heap.size∧¬ Fix w0 (est2 11 0 (fun k=>k=g) (fun _=>False)) k)→Q .normal { tmps:=(s0 :: s1 :: (.pointer (some ⟨g,0,none⟩)) :: (.pointer (some ⟨b,0,none⟩)) :: (.pointer (some ⟨b+1,0,none⟩)) :: s5 :: s6 :: (.int .i64 i) :: s8 :: s9 :: s10 :: s11 :: s12 :: s13 :: s14 :: s15 :: s16 :: s17 :: s18 :: s19 :: s20 :: s21 :: s22 :: s23 :: s24 :: s25 :: s26 :: s27 :: s28 :: s29 :: s30 :: s31 :: s32 :: s33 :: s34 :: s35 :: s36 :: s37 :: s38 :: s39 :: s40 :: s41 :: s42 :: s43 :: s44 :: s45 :: s46 :: s47 :: s48 :: (.pointer (some ⟨b,2,none⟩)) :: (.slice (some ⟨ga,oa,none⟩) m ca) :: (.int .i64 i) :: (.pointer (some ⟨ga,oa+i * 3,none⟩)) :: (.agg #[.int .i64 xk,.int .i64 xn,.slice A1 m1 c1]) :: (.pointer (some ⟨b+1,2,none⟩)) :: (.slice (some ⟨gd,od,none⟩) m cd) :: (.int .i64 i) :: (.pointer (some ⟨gd,od+i * 3,none⟩)) :: (.agg #[.int .i64 yk,.int .i64 yn,.slice A2 m2 c2]) :: (.pointer (some ⟨g,0,none⟩)) :: u60 :: (.bool (!r)) :: s62 :: []:List Value).toArray,defers:=[] } w') :
  (Code.region id sm_ops.toArray true).wp Try.prog Q { tmps:=(s0 :: s1 :: (.pointer (some ⟨g,0,none⟩)) :: (.pointer (some ⟨b,0,none⟩)) :: (.pointer (some ⟨b+1,0,none⟩)) :: s5 :: s6 :: (.int .i64 i) :: s8 :: s9 :: s10 :: s11 :: s12 :: s13 :: s14 :: s15 :: s16 :: s17 :: s18 :: s19 :: s20 :: s21 :: s22 :: s23 :: s24 :: s25 :: s26 :: s27 :: s28 :: s29 :: s30 :: s31 :: s32 :: s33 :: s34 :: s35 :: s36 :: s37 :: s38 :: s39 :: s40 :: s41 :: s42 :: s43 :: s44 :: s45 :: s46 :: s47 :: s48 :: s49 :: s50 :: s51 :: s52 :: s53 :: s54 :: s55 :: s56 :: s57 :: s58 :: s59 :: s60 :: s61 :: s62 :: []:List Value).toArray,defers:=[] } w0:=by
 refine wp_region_est (by kernel_rfl) (est2 11 0 (fun k=>k=g) (fun _=>False)) sm_C (sm_F w0 g b i k1 n1 k2 n2 ga oa gd od m ca cd xk xn yk yn A1 A2 m1 c1 m2 c2 r cnt1) (est2_dis (fun k h1 h2=>h2)) (est2_range (fun k h=>by have:k=g:=h;have:=blk_lt hx3;omega) (fun k h=>h.elim)) (by rfl) (by kernel_rfl) (sm_obs w0.drew g b i k1 n1 k2 n2 ga oa gd od m ca cd xk xn yk yn A1 A2 m1 c1 m2 c2 r cnt1 hx3 hx4 hgb hga hgag hgd hgdg him hc0 hc1 hc2 hd0 hd1 hd2 hg hrec _ _ rfl rfl rfl rfl) ?_
 intro a w' O hd hs hb hf hf2 ha hsame
 have hl:=slots_eq (ops:=sm_ops.toArray) [(49,.pointer (some ⟨b,2,none⟩)),(50,.slice (some ⟨ga,oa,none⟩) m ca),(51,.int .i64 i),(52,.pointer (some ⟨ga,oa+i * 3,none⟩)),(53,.agg #[.int .i64 xk,.int .i64 xn,.slice A1 m1 c1]),(54,.pointer (some ⟨b+1,2,none⟩)),(55,.slice (some ⟨gd,od,none⟩) m cd),(56,.int .i64 i),(57,.pointer (some ⟨gd,od+i * 3,none⟩)),(58,.agg #[.int .i64 yk,.int .i64 yn,.slice A2 m2 c2]),(59,.pointer (some ⟨g,0,none⟩)),(60,a.tmps.getD 60 undef),(61,.bool (!r))] (show a.tmps.size=63 from hs) (fun i h=>hsame i h) ⟨(hf 0 _ 49 rfl rfl (by decide)).1,(hf 1 _ 50 rfl rfl (by decide)).1,(hf 2 _ 51 rfl rfl (by decide)).1,(hf 3 _ 52 rfl rfl (by decide)).1,(hf 4 _ 53 rfl rfl (by decide)).1,(hf 5 _ 54 rfl rfl (by decide)).1,(hf 6 _ 55 rfl rfl (by decide)).1,(hf 7 _ 56 rfl rfl (by decide)).1,(hf 8 _ 57 rfl rfl (by decide)).1,(hf 9 _ 58 rfl rfl (by decide)).1,(hf 10 _ 59 rfl rfl (by decide)).1,rfl,(hf 12 _ 61 rfl rfl (by decide)).1,trivial⟩ (by kernel_rfl)
 obtain ⟨tmps,defers⟩:=a
 obtain rfl:defers=[]:=hd
 have hl':tmps=_:=hl
 rw [hl']
 have hb':=est2_chg hb
 refine Eq.mp ?_ (hend w' (tmps.getD 60 undef) (O 11) ⟨hb'.os,hb'.tape,hb'.output,hb'.size,hb'.block⟩ (hf 11 _ 60 rfl rfl (by decide)).1 (hf 11 _ 60 rfl rfl (by decide)).2)
 kernel_rfl

end Go.Proofs.Ytdboloabpjmgaaa

namespace Go.Proofs.Ytdboloabpjmgaaa
open Go.RowKit Go.Proofs.YtdboloabpjmgaaaW.PrintWords Go.RegionInvYtdboloabpjmgaaa Go.RegionEYtdboloabpjmgaaa

mutual
def simC:Lv→Lv→Nat→Bool × Nat
 | .mk k n ks,l,s=>if 5000<s+1 then (true,s+1) else if k=l.kind∧(k=4∨n=l.num)∧ks.length=l.kids.length then simCK ks l.kids (s+1) else (false,s+1)
def simCK:List Lv→List Lv→Nat→Bool × Nat
 | [],_,s=>(true,s)
 | x :: r,ys,s=>match ys with
  | []=>(true,s)
  | y :: t=>if (simC x y s).1=true then simCK r t (simC x y s).2 else (false,(simC x y s).2)
end
theorem simC_mk (k n:Int) (ks:List Lv) (l:Lv) (s:Nat):simC (.mk k n ks) l s=if 5000<s+1 then (true,s+1) else if k=l.kind∧(k=4∨n=l.num)∧ks.length=l.kids.length then simCK ks l.kids (s+1) else (false,s+1):=by rw [simC]
theorem simCK_nil (ys:List Lv) (s:Nat):simCK [] ys s=(true,s):=by rw [simCK]
theorem simCK_cons (x y:Lv) (r t:List Lv) (s:Nat):simCK (x :: r) (y :: t) s=if (simC x y s).1=true then simCK r t (simC x y s).2 else (false,(simC x y s).2):=by rw [simCK]
theorem simC_over {l l':Lv} {s:Nat} (h:5000<s+1):simC l l' s=(true,s+1):=by cases l;rw [simC_mk,if_pos h]
theorem simC_bad {k n:Int} {ks:List Lv} {l:Lv} {s:Nat} (h0:¬ 5000<s+1) (h:¬ (k=l.kind∧(k=4∨n=l.num)∧ks.length=l.kids.length)):simC (.mk k n ks) l s=(false,s+1):=by rw [simC_mk,if_neg h0,if_neg h]
theorem simC_go {k n:Int} {ks:List Lv} {l:Lv} {s:Nat} (h0:¬ 5000<s+1) (h:k=l.kind∧(k=4∨n=l.num)∧ks.length=l.kids.length):simC (.mk k n ks) l s=simCK ks l.kids (s+1):=by rw [simC_mk,if_neg h0,if_pos h]
theorem simC_all (N:Nat):∀ (l:Lv),SizeOf.sizeOf l<N→∀ (l':Lv) (s:Nat),(simC l l' s).2≤s+sz l∧(s+sz l'≤5000→(simC l l' s).1=simB l l'∧((simC l l' s).1=true→(simC l l' s).2=s+sz l')):=by
 induction N with
 | zero=>intro l h;omega
 | succ N ih =>
  rintro ⟨k,n,ks⟩ hN l' s
  have key:∀ (xs ys:List Lv),(∀ x∈xs,SizeOf.sizeOf x<N)→xs.length=ys.length→∀ s,(simCK xs ys s).2≤s+szs xs∧(s+szs ys≤5000→(simCK xs ys s).1=simKs xs ys∧((simCK xs ys s).1=true→(simCK xs ys s).2=s+szs ys)):=by
   intro xs
   induction xs with
   | nil =>
    intro ys _ hl s
    cases ys with
    | nil=>rw [simCK_nil,simKs_nil,szs_nil];exact ⟨by simp,fun _=>⟨rfl,fun _=>rfl⟩⟩
    | cons y t=>simp at hl
   | cons x r ihr =>
    intro ys hx hl s
    cases ys with
    | nil=>simp at hl
    | cons y t =>
     obtain ⟨h1,h2⟩:=ih x (hx x (by simp)) y s
     rw [simCK_cons,simKs_cons,szs_cons,szs_cons]
     cases hb:(simC x y s).1 with
     | true =>
      rw [if_pos rfl]
      obtain ⟨h3,h4⟩:=ihr t (fun z hz=>hx z (by simp [hz])) (by simpa using hl) (simC x y s).2
      refine ⟨by omega,fun hs=>?_⟩
      obtain ⟨h5,h6⟩:=h2 (by omega)
      rw [hb] at h5
      have h7:=h6 hb
      obtain ⟨h8,h9⟩:=h4 (by omega)
      rw [← h5,h8]
      exact ⟨by simp,fun h=>by rw [h9 (h8.trans h),h7];omega⟩
     | false =>
      rw [if_neg (by simp)]
      refine ⟨by show (simC x y s).2≤_;omega,fun hs=>?_⟩
      obtain ⟨h5,-⟩:=h2 (by omega)
      rw [hb] at h5
      rw [← h5]
      exact ⟨by simp,fun h=>by simp at h⟩
  have hks:∀ x∈ks,SizeOf.sizeOf x<N:=fun x hx=>by
   have:=List.sizeOf_lt_of_mem hx
   have e:=Lv.mk.sizeOf_spec k n ks
   omega
  have hp:1≤sz l':=by cases l';rw [sz_mk];omega
  rw [sz_mk]
  by_cases h0:5000<s+1
  ·rw [simC_over h0]
   exact ⟨by show s+1≤_;omega,fun h=>by omega⟩
  ·by_cases h:k=l'.kind∧(k=4∨n=l'.num)∧ks.length=l'.kids.length
   ·rw [simC_go h0 h,sim_ok h]
    obtain ⟨h1,h2⟩:=key ks l'.kids hks h.2.2 (s+1)
    have hz:sz l'=szs l'.kids+1:=by cases l';rw [sz_mk];rfl
    refine ⟨by omega,fun hs=>?_⟩
    obtain ⟨h3,h4⟩:=h2 (by omega)
    exact ⟨h3,fun h=>by rw [h4 h];omega⟩
   ·rw [simC_bad h0 h,sim_bad h]
    exact ⟨by show s+1≤_;omega,fun _=>⟨rfl,fun h=>by simp at h⟩⟩
inductive LvM (M:Nat):Lv→Prop
 | mk {k n:Int} {ks:List Lv} (h:ks.length≤M) (hk:∀ x∈ks,LvM M x):LvM M (.mk k n ks)
theorem LvM.len {M:Nat} {k n:Int} {ks:List Lv} (h:LvM M (.mk k n ks)):ks.length≤M:=by cases h;assumption
theorem LvM.kid {M:Nat} {k n:Int} {ks:List Lv} (h:LvM M (.mk k n ks)):∀ x∈ks,LvM M x:=by cases h;assumption
theorem simC_ge (M N:Nat):∀ (l:Lv),SizeOf.sizeOf l<N→∀ (l':Lv) (s:Nat),LvM M l→s+1≤(simC l l' s).2∧(simC l l' s).2≤max (s+1) (5000+(5000 - s) * M):=by
 induction N with
 | zero=>intro l h;omega
 | succ N ih =>
  rintro ⟨k,n,ks⟩ hN l' s hm
  by_cases h0:5000<s+1
  ·rw [simC_over h0]
   exact ⟨Nat.le_refl _,Nat.le_max_left _ _⟩
  ·by_cases h:k=l'.kind∧(k=4∨n=l'.num)∧ks.length=l'.kids.length
   ·rw [simC_go h0 h]
    have key:∀ (xs ys:List Lv),(∀ x∈xs,SizeOf.sizeOf x<N∧LvM M x)→∀ t,s+1≤t→t≤(simCK xs ys t).2∧(simCK xs ys t).2≤max t (5000+(5000 - (s+1)) * M)+xs.length:=by
     intro xs
     induction xs with
     | nil=>intro ys _ t ht;rw [simCK_nil];exact ⟨Nat.le_refl _,Nat.le_max_left _ _⟩
     | cons x r ihr =>
      intro ys hx t ht
      cases ys with
      | nil=>rw [simCK];exact ⟨Nat.le_refl _,Nat.le_trans (Nat.le_max_left _ _) (Nat.le_add_right _ _)⟩
      | cons y u =>
       obtain ⟨h1,h2⟩:=ih x (hx x (by simp)).1 y t (hx x (by simp)).2
       have hmul:(5000 - t) * M≤(5000 - (s+1)) * M:=Nat.mul_le_mul_right _ (by omega)
       rw [simCK_cons,List.length_cons]
       cases hb:(simC x y t).1 with
       | true =>
        rw [if_pos rfl]
        obtain ⟨h3,h4⟩:=ihr u (fun z hz=>hx z (by simp [hz])) (simC x y t).2 (by omega)
        exact ⟨by omega,by omega⟩
       | false =>
        rw [if_neg (by simp)]
        exact ⟨by show t≤(simC x y t).2;omega,by show (simC x y t).2≤_;omega⟩
    obtain ⟨h1,h2⟩:=key ks l'.kids (fun x hx=>⟨by
     have:=List.sizeOf_lt_of_mem hx
     have e:=Lv.mk.sizeOf_spec k n ks
     omega,hm.kid x hx⟩) (s+1) (Nat.le_refl _)
    have hl:=hm.len
    have e:(5000 - s) * M=(5000 - (s+1)) * M+M:=by
     have:5000 - s=(5000 - (s+1))+1:=by omega
     rw [this,Nat.add_mul,Nat.one_mul]
    exact ⟨h1,by omega⟩
   ·rw [simC_bad h0 h]
    exact ⟨Nat.le_refl _,Nat.le_max_left _ _⟩
theorem simC_sim {l l':Lv} (h:sz l'≤5000):(simC l l' 0).1=simB l l':=((simC_all _ l (Nat.lt_succ_self _) l' 0).2 (by omega)).1
end Go.Proofs.Ytdboloabpjmgaaa

namespace Go.Proofs.Ytdboloabpjmgaaa
open Go.RowKit Go.Proofs.YtdboloabpjmgaaaW.PrintWords Go.RegionInvYtdboloabpjmgaaa Go.RegionEYtdboloabpjmgaaa

structure SmB (w wr:World) (g:Nat) (s:Int) (k1 n1:Int) (V1:Value) (k2 n2:Int) (V2:Value):Prop where
 x3:wr.heap[w.heap.size]?=some (.cells #[.int .i64 k1,.int .i64 n1,V1] 25 (0,0))
 x4:wr.heap[w.heap.size+1]?=some (.cells #[.int .i64 k2,.int .i64 n2,V2] 25 (0,0))
 num:NumAt wr g s
 chg:Chg (fun k=>k=g) w wr
end Go.Proofs.Ytdboloabpjmgaaa

namespace Go.Proofs.Ytdboloabpjmgaaa
open Go.RowKit Go.Proofs.YtdboloabpjmgaaaW.PrintWords Go.RegionInvYtdboloabpjmgaaa Go.RegionEYtdboloabpjmgaaa

theorem dropC_at {ks:List Lv} {j:Nat} {x:Lv} (h:ks[j]?=some x):ks.drop j=x :: ks.drop (j+1):=by
 obtain ⟨hj,rfl⟩:=List.getElem?_eq_some_iff.1 h
 exact List.drop_eq_getElem_cons hj
set_option maxRecDepth 4000 in
set_option maxHeartbeats 8000000 in
theorem ref_sameC (M:Nat) (hM:5001 * M+5000≤4611686018427387904) (N:Nat):∀ (l:Lv),SizeOf.sizeOf l<N→∀ (l':Lv) (A A':Option Addr) (c c':Nat) (s:Nat) (g:Nat) (w:World),LvS w (fun k=>k≠g) A c l→LvS w (fun k=>k≠g) A' c' l'→NumAt w g s→s≤4611686018427387904→LvM M l →
  Calls Try.prog 102 #[lvV A c l,lvV A' c' l',.pointer (some ⟨g,0,none⟩)] w (SamePost w g (simC l l' s).1 ((simC l l' s).2:Int)):=by
 induction N with
 | zero=>intro l h;omega
 | succ N ih =>
  rintro ⟨lk,ln,ks⟩ hN ⟨lk',ln',ks'⟩ A A' c c' s g w hin hin' hg hs hlm
  have IH:=Ak ih
  have HIN:=Ak hin
  have HIN':=Ak hin'
  have HG:=Ak hg
  have hcell:=hg.cell
  have hfz:=blk_frozen hg 0
  have hlen:=hin.len
  have hlen':=hin'.len
  have hglt:=blk_lt hg
  have hgne:g≠w.heap.size:=Nat.ne_of_lt hglt
  have hgne1:g≠w.heap.size+1:=by omega
  have HLM:=Ak hlm
  clear hlm
  clear ih hin hin' hg
  unfold lvV
  simp only [Lv.kind,Lv.num,Lv.kids] at hlen hlen' ⊢
  obtain ⟨m,hm⟩:∃ m,m=ks.length:=⟨_,rfl⟩
  obtain ⟨m',hm'⟩:∃ m',m'=ks'.length:=⟨_,rfl⟩
  rw [← hm] at hlen ⊢
  rw [← hm'] at hlen' ⊢
  have HM:=Ak hm
  have HM':=Ak hm'
  obtain ⟨W,hW⟩:∃ W,W=(((w.setCell ⟨g,0,none⟩ (.int .i64 ((s:Int)+1))).alloc (.cells #[.int .i64 lk,.int .i64 ln,.slice A m c] 25 (0,0))).alloc (.cells #[.int .i64 lk',.int .i64 ln',.slice A' m' c'] 25 (0,0))):=⟨_,rfl⟩
  have hst:SmB w W g ((s:Int)+1) lk ln (.slice A m c) lk' ln' (.slice A' m' c'):=by
   have hz:(w.setCell ⟨g,0,none⟩ (.int .i64 ((s:Int)+1))).heap.size=w.heap.size:=by simp [World.setCell]
   rw [hW]
   refine ⟨?_,?_,((HG.out.set _).alloc _).alloc _,chg_trans (chg_trans (chg_set _ _ _ _) (chg_alloc _ _ _)) (chg_alloc _ _ _)⟩
   ·have:=box0 (w.setCell ⟨g,0,none⟩ (.int .i64 ((s:Int)+1))) (.cells #[.int .i64 lk,.int .i64 ln,.slice A m c] 25 (0,0)) (.cells #[.int .i64 lk',.int .i64 ln',.slice A' m' c'] 25 (0,0))
    rwa [hz] at this
   ·have:=box1 (w.setCell ⟨g,0,none⟩ (.int .i64 ((s:Int)+1))) (.cells #[.int .i64 lk,.int .i64 ln,.slice A m c] 25 (0,0)) (.cells #[.int .i64 lk',.int .i64 ln',.slice A' m' c'] 25 (0,0))
    rwa [hz] at this
  have HST:=Ak hst
  clear hst hm hm'
  have hwr:IntKind.i64.wrap ((s:Int)+1)=(s:Int)+1:=by rw [Go.IntWalk.i64_left,Go.IntWalk.wrap64_in _ (by omega)]
  go_enter Try.func102,Try.ntmps102
  go_upto_region 2 with (fail)
  rw [← hW]
  clear hW hcell hfz
  have hcell:=HST.out.num.cell
  by_cases h50:5000<s+1
  ·have hlt5:(5000:Int)<(s:Int)+1:=by omega
   have HE:=Ak (simC_over (l:=.mk lk ln ks) (l':=.mk lk' ln' ks') h50)
   clear h50
   go_wp2
   go_ret
   exact ⟨by rw [HE.out] <;> rfl,⟨_,HST.out.num,fun _=>by rw [HE.out];simp⟩,HST.out.chg⟩
  have hlt5:¬ (5000:Int)<(s:Int)+1:=by omega
  have H50:=Ak h50
  clear h50
  obtain ⟨p0,p1,p2,-,-,-⟩:=row3 HST.out.x3
  obtain ⟨q0,q1,q2,-,-,-⟩:=row3 HST.out.x4
  by_cases hk:lk=lk'
  ·have hkb:(lk != lk')=false:=by simp [hk]
   by_cases hn:lk=4∨ln=ln'
   ·by_cases hmm:m=m'
    ·have hmb:((m:Int) != (m':Int))=false:=by simp [hmm]
     have HE:=Ak (simC_go (k:=lk) (n:=ln) (ks:=ks) (l:=.mk lk' ln' ks') H50.out ⟨hk,hn,by simp only [Lv.kids];rw [← HM.out,← HM'.out,hmm]⟩)
     go_upto_region 4 with (fail)
     go_cut [42] (fun v wr=>v=.bool false∧wr=W)
     case first =>
      by_cases hk4:lk=4
      ·have h4:(lk != 4)=false:=by simp [hk4]
       clear hk hn hk4 hmm
       go_wp2
       go_meet
       case rel=>exact ⟨rfl,by first | rfl | trivial⟩
      ·have h4:(lk != 4)=true:=by simp [hk4]
       have h5:(ln != ln')=false:=by simp;omega
       clear hk hn hk4 hmm
       go_wp2
       go_meet
       case rel=>exact ⟨rfl,by first | rfl | trivial⟩
     case rest =>
      obtain ⟨rfl,rfl⟩:=hcut
      subst hmm
      have HML:=Ak (show ks.length=ks'.length by rw [← HM.out,HM'.out])
      have hst0:SmB w wc g ((s+1:Nat):Int) lk ln (.slice A m c) lk' ln' (.slice A' m c'):=by
       rw [show ((s+1:Nat):Int)=(s:Int)+1 by omega]
       exact HST.out
      have HST0:=Ak hst0
      clear hk hn hkb hmb hcell HST hst0 q0 q1 q2
      go_wp2
      go_loopw [46] (fun i wr=>∃ (j t:Nat),i=.int .i64 j∧j≤m∧s+1≤t∧t≤5000+(5000 - (s+1)) * M+j∧Aside0 (simCK (ks.drop j) (ks'.drop j) t=simCK ks ks' (s+1))∧Aside0 (SmB w wr g ((t:Nat):Int) lk ln (.slice A m c) lk' ln' (.slice A' m c'))) (fun i _=>m - (intOf i).toNat)
      case atStart=>exact ⟨0,s+1,rfl,Nat.zero_le _,Nat.le_refl _,by omega,⟨by rw [List.drop_zero,List.drop_zero]⟩,HST0⟩
      case round =>
       clear HST0 p0 p1 p2
       obtain ⟨j,t,rfl,hj,hts1,hts2,HEQ,HST⟩:=hrel
       by_cases hlt:j<m
       ·obtain ⟨x,hx⟩:∃ x,ks[j]?=some x:=⟨_,List.getElem?_eq_getElem (by rw [← HM.out];exact hlt)⟩
        obtain ⟨y,hy⟩:∃ y,ks'[j]?=some y:=⟨_,List.getElem?_eq_getElem (by rw [← HM'.out];exact hlt)⟩
        have hinr:LvS wr (fun k=>k≠g) A c (.mk lk ln ks):=HIN.out.same fun k hk hz=>HST.out.chg.block k hz hk
        have hinr':LvS wr (fun k=>k≠g) A' c' (.mk lk' ln' ks'):=HIN'.out.same fun k hk hz=>HST.out.chg.block k hz hk
        obtain ⟨A1,c1,hcs,hxin⟩:=hinr.kid j x hx
        obtain ⟨A2,c2,hcs',hyin⟩:=hinr'.kid j y hy
        obtain ⟨ga,oa,rfl,hga⟩:=kid_ptr hcs
        obtain ⟨gd,od,rfl,hgd⟩:=kid_ptr hcs'
        have HC:=Ak (lit_kid hcs)
        have HC':=Ak (lit_kid hcs')
        have HX:=Ak hx
        have HY:=Ak hy
        have HXIN:=Ak hxin
        have HYIN:=Ak hyin
        have HDX:=Ak (dropC_at hx)
        have HDY:=Ak (dropC_at hy)
        have HXM:=Ak (HLM.out.kid x (List.mem_of_getElem? hx))
        have HLE:=Ak (simC_ge M _ x (Nat.lt_succ_self _) y t HXM.out)
        have hml:=HLM.out.len
        have hmj:j<M:=by have:=HM.out;omega
        have hmu:(5000 - (s+1)) * M≤5000 * M:=Nat.mul_le_mul_right _ (by omega)
        have htb:t≤4611686018427387904:=by omega
        clear hml hmu
        have hgal:=World.block_lt_of_cell? wr _ HC.out.1
        have hgdl:=World.block_lt_of_cell? wr _ HC'.out.1
        clear hinr hinr' hcs hcs' hx hy hxin hyin
        go_upto_region 9 with (fail)
        refine sm_region wr g w.heap.size j lk ln lk' ln' ga oa gd od m c c' x.kind x.num y.kind y.num A1 A2 x.kids.length c1 y.kids.length c2 (simC x y t).1 ((simC x y t).2:Int) HST.out.x3 HST.out.x4 hglt hgal hga hgdl hgd hlt HC.out.1 HC.out.2.1 HC.out.2.2 HC'.out.1 HC'.out.2.1 HC'.out.2.2 HST.out.num (fun w5 hw5 hn5 hz5=>?_) ?_
        ·exact IH.out x (Nat.lt_of_lt_of_le (kid_small HX.out) (Nat.le_of_lt_succ hN)) y A1 A2 c1 c2 t g w5 (HXIN.out.same fun k hk hz=>hw5 k hz hk) (HYIN.out.same fun k hk hz=>hw5 k hz hk) hn5 htb HXM.out
        ·intro w' u60 O11 hch hf hown
         clear hown
         obtain ⟨-,-,s',hns,hsr⟩:=hf
         have hcw:Chg (fun k=>k=g) wr w':=hch.mono fun k h=>h.elim id False.elim
         have hst1:SmB w w' g s' lk ln (.slice (some ⟨ga,oa,none⟩) m c) lk' ln' (.slice (some ⟨gd,od,none⟩) m c'):=⟨hcw.still HST.out.x3 (by omega),hcw.still HST.out.x4 (by omega),hns,chg_trans HST.out.chg hcw⟩
         have HST1:=Ak hst1
         cases hsim:(simC x y t).1 with
         | true =>
          have HS':=Ak (hsr hsim)
          have HEQ':=Ak (show simCK (ks.drop (j+1)) (ks'.drop (j+1)) (simC x y t).2=simCK ks ks' (s+1) by rw [← HEQ.out,HDX.out,HDY.out,simCK_cons,if_pos hsim])
          have hle1:s+1≤(simC x y t).2:=by have:=HLE.out.1;omega
          have hle2:(simC x y t).2≤5000+(5000 - (s+1)) * M+(j+1):=by have:=HLE.out.2;have hmul:(5000 - t) * M≤(5000 - (s+1)) * M:=Nat.mul_le_mul_right _ (by omega);omega
          clear hch hns hsr hcw hst1 hsim hmj htb hgal hgdl hga hgd hwr hgne hgne1 hs hlt5
          go_wp2
          go_roundw
          case rel=>exact ⟨j+1,(simC x y t).2,by go_num,by omega,hle1,hle2,HEQ',⟨by have h:=HST1.out;rw [HS'.out] at h;exact h⟩⟩
          case measure=>(simp [intOf];try omega)
         | false =>
          have HF:=Ak (show (simC (.mk lk ln ks) (.mk lk' ln' ks') s).1=false by rw [HE.out];show (simCK ks ks' (s+1)).1=false;rw [← HEQ.out,HDX.out,HDY.out,simCK_cons,if_neg (by rw [hsim];simp)])
          clear hch hns hsr hcw hst1 hsim hmj htb hgal hgdl hga hgd hwr hgne hgne1 hs hlt5
          go_wp2
          go_ret
          exact ⟨by rw [HF.out];rfl,⟨_,HST1.out.num,fun h=>by rw [HF.out] at h;cases h⟩,HST1.out.chg⟩
       ·obtain rfl:j=m:=by omega
        have hlt':decide ((j:Int)<j)=false:=by simp
        have HF:=Ak (show simC (.mk lk ln ks) (.mk lk' ln' ks') s=(true,t) by
         rw [HE.out]
         show simCK ks ks' (s+1)=_
         rw [← HEQ.out,List.drop_of_length_le (by rw [← HM.out];exact Nat.le_refl _),simCK_nil])
        go_wp2
        go_ret
        exact ⟨by rw [HF.out] <;> rfl,⟨_,HST.out.num,fun _=>by rw [HF.out]⟩,HST.out.chg⟩
    ·have hmb:((m:Int) != (m':Int))=true:=by simp;omega
     have HE:=Ak (simC_bad (k:=lk) (n:=ln) (ks:=ks) (l:=.mk lk' ln' ks') H50.out (fun h=>hmm (by have:=h.2.2;simp only [Lv.kids] at this;rw [HM.out,HM'.out];exact this)))
     by_cases hk4:lk=4
     ·have h4:(lk != 4)=false:=by simp [hk4]
      clear hk hn hk4 hmm
      go_wp2
      go_ret
      exact ⟨by rw [HE.out];rfl,⟨_,HST.out.num,fun h=>by rw [HE.out] at h;cases h⟩,HST.out.chg⟩
     ·have h4:(lk != 4)=true:=by simp [hk4]
      have h5:(ln != ln')=false:=by simp;omega
      clear hk hn hk4 hmm
      go_wp2
      go_ret
      exact ⟨by rw [HE.out];rfl,⟨_,HST.out.num,fun h=>by rw [HE.out] at h;cases h⟩,HST.out.chg⟩
   ·have h4:(lk != 4)=true:=by simp;omega
    have h5:(ln != ln')=true:=by simp;omega
    have HE:=Ak (simC_bad (k:=lk) (n:=ln) (ks:=ks) (l:=.mk lk' ln' ks') H50.out (fun h=>hn h.2.1))
    clear hk hn
    go_wp2
    go_ret
    exact ⟨by rw [HE.out];rfl,⟨_,HST.out.num,fun h=>by rw [HE.out] at h;cases h⟩,HST.out.chg⟩
  ·have hkb:(lk != lk')=true:=by simp [hk]
   have HE:=Ak (simC_bad (k:=lk) (n:=ln) (ks:=ks) (l:=.mk lk' ln' ks') H50.out (fun h=>hk h.1))
   clear hk
   go_wp2
   go_ret
   exact ⟨by rw [HE.out];rfl,⟨_,HST.out.num,fun h=>by rw [HE.out] at h;cases h⟩,HST.out.chg⟩
set_option maxHeartbeats 4000000 in
theorem refSameC_calls (M:Nat) (hM:5001 * M+5000≤4611686018427387904) (A A':Option Addr) (c c':Nat) (l l':Lv) (w:World) (hin:LvIn w w.heap.size A c l) (hin':LvIn w w.heap.size A' c' l') (hsz:LvM M l) :
  Calls Try.prog 71 #[lvV A c l,lvV A' c' l'] w fun e w'=>e=.returned (.bool (simC l l' 0).1)∧Below w.heap.size w w':=by
 have HIN:=Ak hin
 have HIN':=Ak hin'
 clear hin hin'
 unfold lvV
 go_enter Try.func71,Try.ntmps71
 obtain ⟨w3,hw3⟩:∃ w3,w3=(((w.alloc (.cells #[.int .i64 l.kind,.int .i64 l.num,.slice A l.kids.length c] 25 (0,0))).alloc (.cells #[.int .i64 l'.kind,.int .i64 l'.num,.slice A' l'.kids.length c'] 25 (0,0))).alloc (.cells #[.int .i64 0] 3 (0,0))):=⟨_,rfl⟩
 have hnew:NumAt w3 (w.heap.size+1+1) ((0:Nat):Int):=by
  have:=blk_new ((w.alloc (.cells #[.int .i64 l.kind,.int .i64 l.num,.slice A l.kids.length c] 25 (0,0))).alloc (.cells #[.int .i64 l'.kind,.int .i64 l'.num,.slice A' l'.kids.length c'] 25 (0,0))) (.cells #[.int .i64 0] 3 (0,0))
  rw [hw3]
  simpa [NumAt] using this
 have hb3:Below w.heap.size w w3:=by rw [hw3];exact below_alloc (below_alloc (below_alloc (Below.refl _ _) _) _) _
 have HNEW:=Ak hnew
 have HB3:=Ak hb3
 have HW3:=Ak hw3
 clear hnew hb3 hw3
 go_wp2_with (go_at_call 102;go_must (rw [← HW3.out];refine (ref_sameC M hM _ l (Nat.lt_succ_self _) l' A A' c c' 0 (w.heap.size+1+1) w3 (LvS.mono (HIN.out.stay HB3.out) fun k hk _=>by omega) (LvS.mono (HIN'.out.stay HB3.out) fun k hk _=>by omega) HNEW.out (by omega) hsz).mono ?_;rintro e w1 ⟨rfl,-,hc⟩;have HB:=Ak (Chg.trans_below HB3.out hc (fun _ e=>by omega) HB3.out.size);clear hc))
 go_ret
 exact ⟨rfl,HB.out⟩
end Go.Proofs.Ytdboloabpjmgaaa

namespace Go.Proofs.Ytdboloabpjmgaaa
open Go.RowKit Go.Proofs.YtdboloabpjmgaaaW.PrintWords Go.RegionInvYtdboloabpjmgaaa Go.RegionEYtdboloabpjmgaaa

def slB (a b:Lv):Bool:=simB a b || !soundB b
abbrev mostRow:Nat:=8796093022208
def OKL (a _b:Lv):Prop:=LvM mostRow a
theorem slC (a b:Lv):((simC a b 0).1 || !soundB b)=slB a b:=by
 unfold slB
 cases hs:soundB b with
 | false=>simp
 | true=>rw [simC_sim (by have:=((sound_iff b).1 hs).2.1;omega)]
set_option maxHeartbeats 4000000 in
theorem slevel_calls (A B:Option Addr) (c c':Nat) (a b:Lv) (w:World) (ho:OKL a b) (ha:LvIn w w.heap.size A c a) (hb:LvIn w w.heap.size B c' b) :
  Calls Try.prog 29 #[lvV A c a,lvV B c' b] w fun e w'=>e=.returned (.bool (slB a b))∧Below w.heap.size w w':=by
 have HA:=Ak ha
 have HC:=Ak hb
 have HO:=Ak (show LvM mostRow a from ho)
 have hla:a.kids.length≤9223372036854775807:=by have:=ha.len;omega
 have hlb:b.kids.length≤9223372036854775807:=by have:=hb.len;omega
 have HW:=Ak (show Below w.heap.size w (bx2 w A B c c' a b) from below_alloc (below_alloc (Below.refl _ _) _) _)
 have HY:=Ak (show (bx2 w A B c c' a b).heap[w.heap.size+1]?=some (.cells #[.int .i64 b.kind,.int .i64 b.num,.slice B b.kids.length c'] 25 (0,0)) from box1 w _ _)
 clear ha hb ho
 unfold lvV
 go_enter Try.func29,Try.ntmps29
 cases hs:(simC a b 0).1 with
 | true =>
  have HS:=Ak hs
  have HE:=Ak (show slB a b=true by rw [← slC,hs];rfl)
  clear hs
  go_wp2_with (go_at_call 71;go_must (refine (refSameC_calls mostRow (by decide) A B c c' a b (bx2 w A B c c' a b) (LvS.all (HA.out.stay HW.out)) (LvS.all (HC.out.stay HW.out)) HO.out).mono ?_;rintro e w1 ⟨rfl,hb⟩;rw [HS.out];have HB1:=Ak (below_then HW.out HW.out.size hb);clear hb))
  go_ret
  rw [HE.out]
  exact ⟨rfl,HB1.out⟩
 | false =>
  have HS:=Ak hs
  have HE:=Ak (show slB a b = !soundB b by rw [← slC,hs];rfl)
  clear hs
  go_wp2_with (first
   | (go_at_call 71;go_must (refine (refSameC_calls mostRow (by decide) A B c c' a b (bx2 w A B c c' a b) (LvS.all (HA.out.stay HW.out)) (LvS.all (HC.out.stay HW.out)) HO.out).mono ?_;rintro e w1 ⟨rfl,hb⟩;rw [HS.out];have HB1:=Ak (below_then HW.out HW.out.size hb);obtain ⟨p0,p1,p2,-,-,-⟩:=row3 (blk_below HY.out hb);clear hb))
   | (go_at_call 72;go_must (refine (refSound_calls B c' b w1 (LvS.all (HC.out.stay HB1.out))).mono ?_;rintro e w2 ⟨rfl,hb⟩;have HB2:=Ak (below_then HB1.out HB1.out.size hb);clear hb)))
  go_ret
  rw [HE.out]
  exact ⟨rfl,HB2.out⟩
end Go.Proofs.Ytdboloabpjmgaaa

namespace Go.Proofs.Ytdboloabpjmgaaa
open Go.RowKit Go.Proofs.YtdboloabpjmgaaaW.PrintWords Go.RegionInvYtdboloabpjmgaaa Go.RegionEYtdboloabpjmgaaa

theorem drop_lv {ks:List Lv} {i:Nat} {x:Lv} (h:ks[i]?=some x):ks.drop i=x :: ks.drop (i+1):=by
 obtain ⟨hl,rfl⟩:=List.getElem?_eq_some_iff.1 h
 exact List.drop_eq_getElem_cons hl
theorem kind_leaf {t:Tm} (h:t.kind=1∨t.kind=2∨t.kind=7):nK t=0∧leafR t=false:=by
 have ha:arZ t.kind=0:=if_pos h
 refine ⟨?_,?_⟩
 ·unfold nK;rw [ha];split <;> rfl
 ·unfold leafR;rw [ha];exact decide_eq_false (by omega)
theorem leafR_leaf {t:Tm} (h:leafT t=true) (h1:t.kind≠1) (h2:t.kind≠2) (h7:t.kind≠7):leafR t=true:=by
 have h0:=leaf_nK h
 unfold leafR
 unfold nK at h0
 have ha:arZ t.kind≠0:=by
  unfold arZ
  rw [if_neg (by omega)]
  split
  ·omega
  ·split <;> omega
 refine decide_eq_true ?_
 split at h0
 ·exact .inr (by assumption)
 ·exact .inl (by omega)
theorem nK_same {t u:Tm} (hk:t.kind=u.kind) (ht:leafT t=false) (hu:leafT u=false):nK t=nK u:=by
 have h1:=nK_ar (leaf_nK' ht)
 have h2:=nK_ar (leaf_nK' hu)
 rw [hk] at h1
 omega
theorem below_all {w W:World} {p:Pl} {t:Tm} (h:TmIn w w.heap.size p t) (hb:Below w.heap.size w W):TmIn W W.heap.size p t:=TmS.all (TmIn.stay h hb)
end Go.Proofs.Ytdboloabpjmgaaa

namespace Go.Proofs.Ytdboloabpjmgaaa
open Go.RowKit Go.Proofs.YtdboloabpjmgaaaW.PrintWords Go.RegionInvYtdboloabpjmgaaa Go.RegionEYtdboloabpjmgaaa
set_option linter.unusedVariables false

theorem slevel_at (A B:Option Addr) (c c' m m':Nat) (k n k' n':Int) (a b:Lv) (w:World) (hk:a.kind=k) (hn:a.num=n) (hm:a.kids.length=m) (hk':b.kind=k') (hn':b.num=n') (hm':b.kids.length=m') (ho:OKL a b) (ha:LvIn w w.heap.size A c a) (hb:LvIn w w.heap.size B c' b) :
  Calls Try.prog 29 #[.agg #[.int .i64 k,.int .i64 n,.slice A m c],.agg #[.int .i64 k',.int .i64 n',.slice B m' c']] w fun e w'=>e=.returned (.bool (slB a b))∧Below w.heap.size w w':=by
 subst hk hn hm hk' hn' hm'
 exact slevel_calls A B c c' a b w ho ha hb

def nrl_ops:List Oper:=[
 { dst:=some 59,op:=Go.Op.fieldAddr 28 (Go.Operand.tmp 2) 4,type:=0,pos:= "law.go:78",after:=#[],guard:=none },
 { dst:=some 60,op:=Go.Op.load 23 (Go.Operand.tmp 59),type:=23,pos:= "law.go:78",after:=#[{ on:=0,ground:=Go.Ground.data }],guard:=none },
 { dst:=some 61,op:=Go.Op.move (Go.Operand.tmp 5),type:=3,pos:= "law.go:78",after:=#[],guard:=none },
 { dst:=some 62,op:=Go.Op.indexAddr 23 (Go.Operand.tmp 60) (Go.Operand.tmp 61),type:=0,pos:= "law.go:78",after:=#[{ on:=1,ground:=Go.Ground.data },{ on:=2,ground:=Go.Ground.data }],guard:=none },
 { dst:=some 63,op:=Go.Op.load 25 (Go.Operand.tmp 62),type:=25,pos:= "law.go:78",after:=#[{ on:=3,ground:=Go.Ground.data }],guard:=none },
 { dst:=some 64,op:=Go.Op.fieldAddr 28 (Go.Operand.tmp 3) 4,type:=0,pos:= "law.go:78",after:=#[],guard:=none },
 { dst:=some 65,op:=Go.Op.load 23 (Go.Operand.tmp 64),type:=23,pos:= "law.go:78",after:=#[{ on:=5,ground:=Go.Ground.data }],guard:=none },
 { dst:=some 66,op:=Go.Op.move (Go.Operand.tmp 5),type:=3,pos:= "law.go:78",after:=#[],guard:=none },
 { dst:=some 67,op:=Go.Op.indexAddr 23 (Go.Operand.tmp 65) (Go.Operand.tmp 66),type:=0,pos:= "law.go:78",after:=#[{ on:=6,ground:=Go.Ground.data },{ on:=7,ground:=Go.Ground.data }],guard:=none },
 { dst:=some 68,op:=Go.Op.load 25 (Go.Operand.tmp 67),type:=25,pos:= "law.go:78",after:=#[{ on:=8,ground:=Go.Ground.data }],guard:=none },
 { dst:=some 69,op:=Go.Op.call { callee:=Go.Callee.value (Go.Operand.func 29),args:=#[Go.Operand.tmp 63,Go.Operand.tmp 68],argTypes:=#[25,25] },type:=4,pos:= "law.go:78",after:=#[{ on:=4,ground:=Go.Ground.data },{ on:=9,ground:=Go.Ground.data }],guard:=none },
 { dst:=some 70,op:=Go.Op.unOp Go.UnOp.not 4 (Go.Operand.tmp 69),type:=4,pos:= "law.go:78",after:=#[{ on:=10,ground:=Go.Ground.data }],guard:=none }]
def nrl_F (w0:World) (g h i:Nat) (p q:Pl) (t u:Tm) (ga oa gd od m1:Nat) (xk xn yk yn:Int) (A1 A2:Option Addr) (n1 c1 n2 c2:Nat) (r:Bool):Nat→(Nat→Value)→Value→World→(Nat→Prop)→Prop:=fun rix=>match rix with
 | 0=>fun _ v _ _=>v=.pointer (some ⟨g,6,none⟩)
 | 1=>fun _ v _ _=>v=.slice (some ⟨ga,oa,none⟩) m1 p.d
 | 2=>fun _ v _ _=>v=.int .i64 i
 | 3=>fun _ v _ _=>v=.pointer (some ⟨ga,oa+i * 3,none⟩)
 | 4=>fun _ v _ _=>v=.agg #[.int .i64 xk,.int .i64 xn,.slice A1 n1 c1]
 | 5=>fun _ v _ _=>v=.pointer (some ⟨h,6,none⟩)
 | 6=>fun _ v _ _=>v=.slice (some ⟨gd,od,none⟩) m1 q.d
 | 7=>fun _ v _ _=>v=.int .i64 i
 | 8=>fun _ v _ _=>v=.pointer (some ⟨gd,od+i * 3,none⟩)
 | 9=>fun _ v _ _=>v=.agg #[.int .i64 yk,.int .i64 yn,.slice A2 n2 c2]
 | 10=>fun _ v _ _=>v=.bool r
 | 11=>fun _ v _ _=>v=.bool (!r)
 | _=>fun _ _ _ _=>True
def nrl_C:Nat→List Nat:=fun rix=>match rix with
 | _=>[]
theorem nrl_nw2:nwB nrl_ops.toArray 2=true:=by kernel_rfl
theorem nrl_nw3:nwB nrl_ops.toArray 3=true:=by kernel_rfl
theorem nrl_nw5:nwB nrl_ops.toArray 5=true:=by kernel_rfl
set_option maxRecDepth 100000 in
set_option maxHeartbeats 8000000 in
theorem nrl_obs (w0:World) (g h i:Nat) (p q:Pl) (t u:Tm) (ga oa gd od m1:Nat) (xk xn yk yn:Int) (A1 A2:Option Addr) (n1 c1 n2 c2:Nat) (r:Bool) (hx2:w0.heap[g]?=some (tmO p t)) (hx3:w0.heap[h]?=some (tmO q u)) (hpB:p.B=some ⟨ga,oa,none⟩) (hqB:q.B=some ⟨gd,od,none⟩) (hm1:t.ls.length=m1) (hm2:u.ls.length=m1) (hga:ga<w0.heap.size) (hgd:gd<w0.heap.size) (him:i<m1) (hm9:m1≤9223372036854775807) (ca0:w0.cell? ⟨ga,oa+i * 3,none⟩=some (.int .i64 xk)) (ca1:w0.cell? ⟨ga,oa+i * 3+1,none⟩=some (.int .i64 xn)) (ca2:w0.cell? ⟨ga,oa+i * 3+2,none⟩=some (.slice A1 n1 c1)) (cb0:w0.cell? ⟨gd,od+i * 3,none⟩=some (.int .i64 yk)) (cb1:w0.cell? ⟨gd,od+i * 3+1,none⟩=some (.int .i64 yn)) (cb2:w0.cell? ⟨gd,od+i * 3+2,none⟩=some (.slice A2 n2 c2)) (hEQ:∀ w,Below w0.heap.size w0 w→Calls Try.prog 29 #[.agg #[.int .i64 xk,.int .i64 xn,.slice A1 n1 c1],.agg #[.int .i64 yk,.int .i64 yn,.slice A2 n2 c2]] w fun e w'=>e=.returned (.bool r)∧Below w.heap.size w w') (Q:Exit→Act→World→Prop) (a0:Act) (hi2:a0.tmps.getD 2 undef=.pointer (some ⟨g,0,none⟩)) (hi3:a0.tmps.getD 3 undef=.pointer (some ⟨h,0,none⟩)) (hi5:a0.tmps.getD 5 undef=.int .i64 i) :
  ObsE Try.prog nrl_ops.toArray Q (est2 0 0 (fun _=>False) (fun _=>False)) nrl_C (nrl_F w0 g h i p q t u ga oa gd od m1 xk xn yk yn A1 A2 n1 c1 n2 c2 r) a0 w0 nrl_ops.toArray.toList 0:=by
 have nw2:=nrl_nw2
 have nw3:=nrl_nw3
 have nw5:=nrl_nw5
 refine ⟨?_,?_,?_,?_,?_,?_,?_,?_,?_,?_,?_,?_,trivial⟩
 ·refine ⟨⟨fun τ=>stableE_det _,leans_not⟩,?_⟩
  intro a w O hk
  have e2:a.eval (.tmp 2)=.pointer (some ⟨g,0,none⟩):=(hk.init 2 (initialB_of_nw nw2)).trans hi2
  have x2:=hk.world.still hx2 (fun ⟨_,h⟩=>h.elim And.right And.right)
  have x3:=hk.world.still hx3 (fun ⟨_,h⟩=>h.elim And.right And.right)
  have hcc:∀ j,w.cell? ⟨ga,j,none⟩=w0.cell? ⟨ga,j,none⟩:=fun j=>cell_same ((hk.world.below (fun k ⟨_,h⟩=>h.elim (fun h=>h.2.elim) fun h=>h.2.elim) (Nat.le_refl _)).block _ hga)
  have hcd:∀ j,w.cell? ⟨gd,j,none⟩=w0.cell? ⟨gd,j,none⟩:=fun j=>cell_same ((hk.world.below (fun k ⟨_,h⟩=>h.elim (fun h=>h.2.elim) fun h=>h.2.elim) (Nat.le_refl _)).block _ hgd)
  have hbl:Below w0.heap.size w0 w:=(hk.world.below (fun k ⟨_,h⟩=>h.elim (fun h=>h.2.elim) fun h=>h.2.elim) (Nat.le_refl _))
  exact obE_run (wanted_none rfl) (by unfold execOp;simp only [];rw [e2];go_simp) rfl
 ·refine ⟨⟨fun τ=>stableE_det _,leans_not⟩,?_⟩
  intro a w O hk
  have e59:a.eval (.tmp 59)=.pointer (some ⟨g,6,none⟩):=hk.fact 0 _ 59 rfl rfl rfl rfl
  have x2:=hk.world.still hx2 (fun ⟨_,h⟩=>h.elim And.right And.right)
  have x3:=hk.world.still hx3 (fun ⟨_,h⟩=>h.elim And.right And.right)
  have hcc:∀ j,w.cell? ⟨ga,j,none⟩=w0.cell? ⟨ga,j,none⟩:=fun j=>cell_same ((hk.world.below (fun k ⟨_,h⟩=>h.elim (fun h=>h.2.elim) fun h=>h.2.elim) (Nat.le_refl _)).block _ hga)
  have hcd:∀ j,w.cell? ⟨gd,j,none⟩=w0.cell? ⟨gd,j,none⟩:=fun j=>cell_same ((hk.world.below (fun k ⟨_,h⟩=>h.elim (fun h=>h.2.elim) fun h=>h.2.elim) (Nat.le_refl _)).block _ hgd)
  have hbl:Below w0.heap.size w0 w:=(hk.world.below (fun k ⟨_,h⟩=>h.elim (fun h=>h.2.elim) fun h=>h.2.elim) (Nat.le_refl _))
  obtain ⟨p0,p1,p2,p3,p4,p5,p6,p7⟩:=row8 x2
  rw [hpB,hm1] at p6
  exact obE_run (wanted_none rfl) (by unfold execOp;simp only [];rw [e59];go_simp) rfl
 ·refine ⟨⟨fun τ=>stableE_det _,leans_not⟩,?_⟩
  intro a w O hk
  have e5:a.eval (.tmp 5)=.int .i64 i:=(hk.init 5 (initialB_of_nw nw5)).trans hi5
  exact toE (ob_move rfl e5 (wanted_none rfl) rfl)
 ·refine ⟨⟨fun τ=>stableE_det _,leans_not⟩,?_⟩
  intro a w O hk
  have e60:a.eval (.tmp 60)=.slice (some ⟨ga,oa,none⟩) m1 p.d:=hk.fact 1 _ 60 rfl rfl rfl rfl
  have e61:a.eval (.tmp 61)=.int .i64 i:=hk.fact 2 _ 61 rfl rfl rfl rfl
  have x2:=hk.world.still hx2 (fun ⟨_,h⟩=>h.elim And.right And.right)
  have x3:=hk.world.still hx3 (fun ⟨_,h⟩=>h.elim And.right And.right)
  have hcc:∀ j,w.cell? ⟨ga,j,none⟩=w0.cell? ⟨ga,j,none⟩:=fun j=>cell_same ((hk.world.below (fun k ⟨_,h⟩=>h.elim (fun h=>h.2.elim) fun h=>h.2.elim) (Nat.le_refl _)).block _ hga)
  have hcd:∀ j,w.cell? ⟨gd,j,none⟩=w0.cell? ⟨gd,j,none⟩:=fun j=>cell_same ((hk.world.below (fun k ⟨_,h⟩=>h.elim (fun h=>h.2.elim) fun h=>h.2.elim) (Nat.le_refl _)).block _ hgd)
  have hbl:Below w0.heap.size w0 w:=(hk.world.below (fun k ⟨_,h⟩=>h.elim (fun h=>h.2.elim) fun h=>h.2.elim) (Nat.le_refl _))
  exact obE_run (wanted_none rfl) (by unfold execOp;simp only [];rw [e60,e61];go_simp) rfl
 ·refine ⟨⟨fun τ=>stableE_det _,leans_not⟩,?_⟩
  intro a w O hk
  have e62:a.eval (.tmp 62)=.pointer (some ⟨ga,oa+i * 3,none⟩):=hk.fact 3 _ 62 rfl rfl rfl rfl
  have x2:=hk.world.still hx2 (fun ⟨_,h⟩=>h.elim And.right And.right)
  have x3:=hk.world.still hx3 (fun ⟨_,h⟩=>h.elim And.right And.right)
  have hcc:∀ j,w.cell? ⟨ga,j,none⟩=w0.cell? ⟨ga,j,none⟩:=fun j=>cell_same ((hk.world.below (fun k ⟨_,h⟩=>h.elim (fun h=>h.2.elim) fun h=>h.2.elim) (Nat.le_refl _)).block _ hga)
  have hcd:∀ j,w.cell? ⟨gd,j,none⟩=w0.cell? ⟨gd,j,none⟩:=fun j=>cell_same ((hk.world.below (fun k ⟨_,h⟩=>h.elim (fun h=>h.2.elim) fun h=>h.2.elim) (Nat.le_refl _)).block _ hgd)
  have hbl:Below w0.heap.size w0 w:=(hk.world.below (fun k ⟨_,h⟩=>h.elim (fun h=>h.2.elim) fun h=>h.2.elim) (Nat.le_refl _))
  have r0:=(hcc _).trans ca0
  have r1:=(hcc _).trans ca1
  have r2:=(hcc _).trans ca2
  exact obE_run (wanted_none rfl) (by unfold execOp;simp only [];rw [e62];go_simp) rfl
 ·refine ⟨⟨fun τ=>stableE_det _,leans_not⟩,?_⟩
  intro a w O hk
  have e3:a.eval (.tmp 3)=.pointer (some ⟨h,0,none⟩):=(hk.init 3 (initialB_of_nw nw3)).trans hi3
  have x2:=hk.world.still hx2 (fun ⟨_,h⟩=>h.elim And.right And.right)
  have x3:=hk.world.still hx3 (fun ⟨_,h⟩=>h.elim And.right And.right)
  have hcc:∀ j,w.cell? ⟨ga,j,none⟩=w0.cell? ⟨ga,j,none⟩:=fun j=>cell_same ((hk.world.below (fun k ⟨_,h⟩=>h.elim (fun h=>h.2.elim) fun h=>h.2.elim) (Nat.le_refl _)).block _ hga)
  have hcd:∀ j,w.cell? ⟨gd,j,none⟩=w0.cell? ⟨gd,j,none⟩:=fun j=>cell_same ((hk.world.below (fun k ⟨_,h⟩=>h.elim (fun h=>h.2.elim) fun h=>h.2.elim) (Nat.le_refl _)).block _ hgd)
  have hbl:Below w0.heap.size w0 w:=(hk.world.below (fun k ⟨_,h⟩=>h.elim (fun h=>h.2.elim) fun h=>h.2.elim) (Nat.le_refl _))
  exact obE_run (wanted_none rfl) (by unfold execOp;simp only [];rw [e3];go_simp) rfl
 ·refine ⟨⟨fun τ=>stableE_det _,leans_not⟩,?_⟩
  intro a w O hk
  have e64:a.eval (.tmp 64)=.pointer (some ⟨h,6,none⟩):=hk.fact 5 _ 64 rfl rfl rfl rfl
  have x2:=hk.world.still hx2 (fun ⟨_,h⟩=>h.elim And.right And.right)
  have x3:=hk.world.still hx3 (fun ⟨_,h⟩=>h.elim And.right And.right)
  have hcc:∀ j,w.cell? ⟨ga,j,none⟩=w0.cell? ⟨ga,j,none⟩:=fun j=>cell_same ((hk.world.below (fun k ⟨_,h⟩=>h.elim (fun h=>h.2.elim) fun h=>h.2.elim) (Nat.le_refl _)).block _ hga)
  have hcd:∀ j,w.cell? ⟨gd,j,none⟩=w0.cell? ⟨gd,j,none⟩:=fun j=>cell_same ((hk.world.below (fun k ⟨_,h⟩=>h.elim (fun h=>h.2.elim) fun h=>h.2.elim) (Nat.le_refl _)).block _ hgd)
  have hbl:Below w0.heap.size w0 w:=(hk.world.below (fun k ⟨_,h⟩=>h.elim (fun h=>h.2.elim) fun h=>h.2.elim) (Nat.le_refl _))
  obtain ⟨p0,p1,p2,p3,p4,p5,p6,p7⟩:=row8 x3
  rw [hqB,hm2] at p6
  exact obE_run (wanted_none rfl) (by unfold execOp;simp only [];rw [e64];go_simp) rfl
 ·refine ⟨⟨fun τ=>stableE_det _,leans_not⟩,?_⟩
  intro a w O hk
  have e5:a.eval (.tmp 5)=.int .i64 i:=(hk.init 5 (initialB_of_nw nw5)).trans hi5
  exact toE (ob_move rfl e5 (wanted_none rfl) rfl)
 ·refine ⟨⟨fun τ=>stableE_det _,leans_not⟩,?_⟩
  intro a w O hk
  have e65:a.eval (.tmp 65)=.slice (some ⟨gd,od,none⟩) m1 q.d:=hk.fact 6 _ 65 rfl rfl rfl rfl
  have e66:a.eval (.tmp 66)=.int .i64 i:=hk.fact 7 _ 66 rfl rfl rfl rfl
  have x2:=hk.world.still hx2 (fun ⟨_,h⟩=>h.elim And.right And.right)
  have x3:=hk.world.still hx3 (fun ⟨_,h⟩=>h.elim And.right And.right)
  have hcc:∀ j,w.cell? ⟨ga,j,none⟩=w0.cell? ⟨ga,j,none⟩:=fun j=>cell_same ((hk.world.below (fun k ⟨_,h⟩=>h.elim (fun h=>h.2.elim) fun h=>h.2.elim) (Nat.le_refl _)).block _ hga)
  have hcd:∀ j,w.cell? ⟨gd,j,none⟩=w0.cell? ⟨gd,j,none⟩:=fun j=>cell_same ((hk.world.below (fun k ⟨_,h⟩=>h.elim (fun h=>h.2.elim) fun h=>h.2.elim) (Nat.le_refl _)).block _ hgd)
  have hbl:Below w0.heap.size w0 w:=(hk.world.below (fun k ⟨_,h⟩=>h.elim (fun h=>h.2.elim) fun h=>h.2.elim) (Nat.le_refl _))
  exact obE_run (wanted_none rfl) (by unfold execOp;simp only [];rw [e65,e66];go_simp) rfl
 ·refine ⟨⟨fun τ=>stableE_det _,leans_not⟩,?_⟩
  intro a w O hk
  have e67:a.eval (.tmp 67)=.pointer (some ⟨gd,od+i * 3,none⟩):=hk.fact 8 _ 67 rfl rfl rfl rfl
  have x2:=hk.world.still hx2 (fun ⟨_,h⟩=>h.elim And.right And.right)
  have x3:=hk.world.still hx3 (fun ⟨_,h⟩=>h.elim And.right And.right)
  have hcc:∀ j,w.cell? ⟨ga,j,none⟩=w0.cell? ⟨ga,j,none⟩:=fun j=>cell_same ((hk.world.below (fun k ⟨_,h⟩=>h.elim (fun h=>h.2.elim) fun h=>h.2.elim) (Nat.le_refl _)).block _ hga)
  have hcd:∀ j,w.cell? ⟨gd,j,none⟩=w0.cell? ⟨gd,j,none⟩:=fun j=>cell_same ((hk.world.below (fun k ⟨_,h⟩=>h.elim (fun h=>h.2.elim) fun h=>h.2.elim) (Nat.le_refl _)).block _ hgd)
  have hbl:Below w0.heap.size w0 w:=(hk.world.below (fun k ⟨_,h⟩=>h.elim (fun h=>h.2.elim) fun h=>h.2.elim) (Nat.le_refl _))
  have r0:=(hcd _).trans cb0
  have r1:=(hcd _).trans cb1
  have r2:=(hcd _).trans cb2
  exact obE_run (wanted_none rfl) (by unfold execOp;simp only [];rw [e67];go_simp) rfl
 ·refine ⟨⟨fun τ=>stableE_det _,leans_not⟩,?_⟩
  intro a w O hk
  have e63:a.eval (.tmp 63)=.agg #[.int .i64 xk,.int .i64 xn,.slice A1 n1 c1]:=hk.fact 4 _ 63 rfl rfl rfl rfl
  have e68:a.eval (.tmp 68)=.agg #[.int .i64 yk,.int .i64 yn,.slice A2 n2 c2]:=hk.fact 9 _ 68 rfl rfl rfl rfl
  have x2:=hk.world.still hx2 (fun ⟨_,h⟩=>h.elim And.right And.right)
  have x3:=hk.world.still hx3 (fun ⟨_,h⟩=>h.elim And.right And.right)
  have hcc:∀ j,w.cell? ⟨ga,j,none⟩=w0.cell? ⟨ga,j,none⟩:=fun j=>cell_same ((hk.world.below (fun k ⟨_,h⟩=>h.elim (fun h=>h.2.elim) fun h=>h.2.elim) (Nat.le_refl _)).block _ hga)
  have hcd:∀ j,w.cell? ⟨gd,j,none⟩=w0.cell? ⟨gd,j,none⟩:=fun j=>cell_same ((hk.world.below (fun k ⟨_,h⟩=>h.elim (fun h=>h.2.elim) fun h=>h.2.elim) (Nat.le_refl _)).block _ hgd)
  have hbl:Below w0.heap.size w0 w:=(hk.world.below (fun k ⟨_,h⟩=>h.elim (fun h=>h.2.elim) fun h=>h.2.elim) (Nat.le_refl _))
  exact obE_callV #[.agg #[.int .i64 xk,.int .i64 xn,.slice A1 n1 c1],.agg #[.int .i64 yk,.int .i64 yn,.slice A2 n2 c2]] rfl rfl rfl rfl (by simp only [List.map_cons,List.map_nil];rw [e63,e68]) (wanted_none rfl) (hEQ w hbl)
 ·refine ⟨⟨fun τ=>stableE_det _,leans_not⟩,?_⟩
  intro a w O hk
  have e69:a.eval (.tmp 69)=.bool r:=hk.fact 10 _ 69 rfl rfl rfl rfl
  have x2:=hk.world.still hx2 (fun ⟨_,h⟩=>h.elim And.right And.right)
  have x3:=hk.world.still hx3 (fun ⟨_,h⟩=>h.elim And.right And.right)
  have hcc:∀ j,w.cell? ⟨ga,j,none⟩=w0.cell? ⟨ga,j,none⟩:=fun j=>cell_same ((hk.world.below (fun k ⟨_,h⟩=>h.elim (fun h=>h.2.elim) fun h=>h.2.elim) (Nat.le_refl _)).block _ hga)
  have hcd:∀ j,w.cell? ⟨gd,j,none⟩=w0.cell? ⟨gd,j,none⟩:=fun j=>cell_same ((hk.world.below (fun k ⟨_,h⟩=>h.elim (fun h=>h.2.elim) fun h=>h.2.elim) (Nat.le_refl _)).block _ hgd)
  have hbl:Below w0.heap.size w0 w:=(hk.world.below (fun k ⟨_,h⟩=>h.elim (fun h=>h.2.elim) fun h=>h.2.elim) (Nat.le_refl _))
  exact obE_run (wanted_none rfl) (by unfold execOp;simp only [];rw [e69];go_simp) rfl
set_option maxRecDepth 100000 in
set_option maxHeartbeats 8000000 in
theorem nrl_region {Q:Exit→Act→World→Prop} {id:Nat} (w0:World) (g h i:Nat) (p q:Pl) (t u:Tm) (ga oa gd od m1:Nat) (xk xn yk yn:Int) (A1 A2:Option Addr) (n1 c1 n2 c2:Nat) (r:Bool) {s0 s1 s4 s6 s7 s8 s9 s10 s11 s12 s13 s14 s15 s16 s17 s18 s19 s20 s21 s22 s23 s24 s25 s26 s27 s28 s29 s30 s31 s32 s33 s34 s35 s36 s37 s38 s39 s40 s41 s42 s43 s44 s45 s46 s47 s48 s49 s50 s51 s52 s53 s54 s55 s56 s57 s58 s59 s60 s61 s62 s63 s64 s65 s66 s67 s68 s69 s70 s71 s72 s73 s74 s75 s76 s77 s78 s79 s80 s81 s82 s83 s84 s85 s86 s87 s88 s89 s90:Value} (hx2:w0.heap[g]?=some (tmO p t)) (hx3:w0.heap[h]?=some (tmO q u)) (hpB:p.B=some ⟨ga,oa,none⟩) (hqB:q.B=some ⟨gd,od,none⟩) (hm1:t.ls.length=m1) (hm2:u.ls.length=m1) (hga:ga<w0.heap.size) (hgd:gd<w0.heap.size) (him:i<m1) (hm9:m1≤9223372036854775807) (ca0:w0.cell? ⟨ga,oa+i * 3,none⟩=some (.int .i64 xk)) (ca1:w0.cell? ⟨ga,oa+i * 3+1,none⟩=some (.int .i64 xn)) (ca2:w0.cell? ⟨ga,oa+i * 3+2,none⟩=some (.slice A1 n1 c1)) (cb0:w0.cell? ⟨gd,od+i * 3,none⟩=some (.int .i64 yk)) (cb1:w0.cell? ⟨gd,od+i * 3+1,none⟩=some (.int .i64 yn)) (cb2:w0.cell? ⟨gd,od+i * 3+2,none⟩=some (.slice A2 n2 c2)) (hEQ:∀ w,Below w0.heap.size w0 w→Calls Try.prog 29 #[.agg #[.int .i64 xk,.int .i64 xn,.slice A1 n1 c1],.agg #[.int .i64 yk,.int .i64 yn,.slice A2 n2 c2]] w fun e w'=>e=.returned (.bool r)∧Below w.heap.size w w')
  (hend:∀ (w':World),Chg (fun k=>False∨False) w0 w'→Q .normal { tmps:=(s0 :: s1 :: (.pointer (some ⟨g,0,none⟩)) :: (.pointer (some ⟨h,0,none⟩)) :: s4 :: (.int .i64 i) :: s6 :: s7 :: s8 :: s9 :: s10 :: s11 :: s12 :: s13 :: s14 :: s15 :: s16 :: s17 :: s18 :: s19 :: s20 :: s21 :: s22 :: s23 :: s24 :: s25 :: s26 :: s27 :: s28 :: s29 :: s30 :: s31 :: s32 :: s33 :: s34 :: s35 :: s36 :: s37 :: s38 :: s39 :: s40 :: s41 :: s42 :: s43 :: s44 :: s45 :: s46 :: s47 :: s48 :: s49 :: s50 :: s51 :: s52 :: s53 :: s54 :: s55 :: s56 :: s57 :: s58 :: (.pointer (some ⟨g,6,none⟩)) :: (.slice (some ⟨ga,oa,none⟩) m1 p.d) :: (.int .i64 i) :: (.pointer (some ⟨ga,oa+i * 3,none⟩)) :: (.agg #[.int .i64 xk,.int .i64 xn,.slice A1 n1 c1]) :: (.pointer (some ⟨h,6,none⟩)) :: (.slice (some ⟨gd,od,none⟩) m1 q.d) :: (.int .i64 i) :: (.pointer (some ⟨gd,od+i * 3,none⟩)) :: (.agg #[.int .i64 yk,.int .i64 yn,.slice A2 n2 c2]) :: (.bool r) :: (.bool (!r)) :: s71 :: s72 :: s73 :: s74 :: s75 :: s76 :: s77 :: s78 :: s79 :: s80 :: s81 :: s82 :: s83 :: s84 :: s85 :: s86 :: s87 :: s88 :: s89 :: s90 :: []:List Value).toArray,defers:=[] } w') :
  (Code.region id nrl_ops.toArray true).wp Try.prog Q { tmps:=(s0 :: s1 :: (.pointer (some ⟨g,0,none⟩)) :: (.pointer (some ⟨h,0,none⟩)) :: s4 :: (.int .i64 i) :: s6 :: s7 :: s8 :: s9 :: s10 :: s11 :: s12 :: s13 :: s14 :: s15 :: s16 :: s17 :: s18 :: s19 :: s20 :: s21 :: s22 :: s23 :: s24 :: s25 :: s26 :: s27 :: s28 :: s29 :: s30 :: s31 :: s32 :: s33 :: s34 :: s35 :: s36 :: s37 :: s38 :: s39 :: s40 :: s41 :: s42 :: s43 :: s44 :: s45 :: s46 :: s47 :: s48 :: s49 :: s50 :: s51 :: s52 :: s53 :: s54 :: s55 :: s56 :: s57 :: s58 :: s59 :: s60 :: s61 :: s62 :: s63 :: s64 :: s65 :: s66 :: s67 :: s68 :: s69 :: s70 :: s71 :: s72 :: s73 :: s74 :: s75 :: s76 :: s77 :: s78 :: s79 :: s80 :: s81 :: s82 :: s83 :: s84 :: s85 :: s86 :: s87 :: s88 :: s89 :: s90 :: []:List Value).toArray,defers:=[] } w0:=by
 refine wp_region_est (by kernel_rfl) (est2 0 0 (fun _=>False) (fun _=>False)) nrl_C (nrl_F w0 g h i p q t u ga oa gd od m1 xk xn yk yn A1 A2 n1 c1 n2 c2 r) (est2_dis (fun _ h _=>h)) (est2_range (fun _ h=>h.elim) (fun _ h=>h.elim)) (by rfl) (by kernel_rfl) (nrl_obs w0.drew g h i p q t u ga oa gd od m1 xk xn yk yn A1 A2 n1 c1 n2 c2 r hx2 hx3 hpB hqB hm1 hm2 hga hgd him hm9 ca0 ca1 ca2 cb0 cb1 cb2 (fun w h=>hEQ w (below_undrew h)) _ _ rfl rfl rfl) ?_
 intro a w' O hd hs hb hf hf2 ha hsame
 have hl:=slots_eq (ops:=nrl_ops.toArray) [(59,.pointer (some ⟨g,6,none⟩)),(60,.slice (some ⟨ga,oa,none⟩) m1 p.d),(61,.int .i64 i),(62,.pointer (some ⟨ga,oa+i * 3,none⟩)),(63,.agg #[.int .i64 xk,.int .i64 xn,.slice A1 n1 c1]),(64,.pointer (some ⟨h,6,none⟩)),(65,.slice (some ⟨gd,od,none⟩) m1 q.d),(66,.int .i64 i),(67,.pointer (some ⟨gd,od+i * 3,none⟩)),(68,.agg #[.int .i64 yk,.int .i64 yn,.slice A2 n2 c2]),(69,.bool r),(70,.bool (!r))] (show a.tmps.size=91 from hs) (fun i h=>hsame i h) ⟨(hf 0 _ 59 rfl rfl (by decide)).1,(hf 1 _ 60 rfl rfl (by decide)).1,(hf 2 _ 61 rfl rfl (by decide)).1,(hf 3 _ 62 rfl rfl (by decide)).1,(hf 4 _ 63 rfl rfl (by decide)).1,(hf 5 _ 64 rfl rfl (by decide)).1,(hf 6 _ 65 rfl rfl (by decide)).1,(hf 7 _ 66 rfl rfl (by decide)).1,(hf 8 _ 67 rfl rfl (by decide)).1,(hf 9 _ 68 rfl rfl (by decide)).1,(hf 10 _ 69 rfl rfl (by decide)).1,(hf 11 _ 70 rfl rfl (by decide)).1,trivial⟩ (by kernel_rfl)
 obtain ⟨tmps,defers⟩:=a
 obtain rfl:defers=[]:=hd
 have hl':tmps=_:=hl
 rw [hl']
 have hb':=est2_chg hb
 refine Eq.mp ?_ (hend w' ⟨hb'.os,hb'.tape,hb'.output,hb'.size,hb'.block⟩)
 kernel_rfl

end Go.Proofs.Ytdboloabpjmgaaa

namespace Go.Proofs.Ytdboloabpjmgaaa
open Go.RowKit Go.Proofs.YtdboloabpjmgaaaW.PrintWords Go.RegionInvYtdboloabpjmgaaa Go.RegionEYtdboloabpjmgaaa

def lvsSl:List Lv→List Lv→Bool
 | [],[]=>true
 | x :: r,y :: s=>slB x y && lvsSl r s
 | _,_=>false
def hnB (a b:Tm):Bool:=decide (a.kind=b.kind) && (leafR a == leafR b) && (leafR a || (if a.kind=1 then decide (a.num=b.num) else if a.kind=2 then slB a.lv b.lv else if a.kind=7 then (a.name.toList == b.name.toList) && lvsSl a.ls b.ls else true))
def nearT (a b:Tm):Bool:=hnB a b && (List.finRange (nK a)).all fun i=>nearT (kidF a i) (b.kids.getD i.1 default)
termination_by SizeOf.sizeOf a
decreasing_by exact kidF_lt a i
def alikeT (a b:Tm):Bool:=if okT a∧okT b then nearT a b else decide (okT a) == decide (okT b)
inductive CmpOk:Tm→Tm→Prop
 | mk {t u:Tm} (hl:t.kind=2→OKL t.lv u.lv) (hs:t.kind=7→∀ (i:Nat) (x y:Lv),t.ls[i]?=some x→u.ls[i]?=some y→OKL x y) (hk:∀ i:Fin (nK t),CmpOk (kidF t i) (u.kids.getD i.1 default)):CmpOk t u
theorem CmpOk.lv {t u:Tm} (h:CmpOk t u):t.kind=2→OKL t.lv u.lv:=by cases h;assumption
theorem CmpOk.ls {t u:Tm} (h:CmpOk t u):t.kind=7→∀ (i:Nat) (x y:Lv),t.ls[i]?=some x→u.ls[i]?=some y→OKL x y:=by cases h;assumption
theorem CmpOk.kid {t u:Tm} (h:CmpOk t u):∀ i:Fin (nK t),CmpOk (kidF t i) (u.kids.getD i.1 default):=by cases h;assumption
theorem near_eq (a b:Tm):nearT a b=(hnB a b && (List.finRange (nK a)).all fun i=>nearT (kidF a i) (b.kids.getD i.1 default)):=by rw [nearT]
theorem near_leaf {a b:Tm} (h:leafT a=true):nearT a b=hnB a b:=by
 rw [near_eq,fin_none (leaf_nK h)]
 simp
theorem hn_node {a b:Tm} (ha:leafT a=false) (hb:leafT b=false) (hk:a.kind=b.kind):hnB a b=true:=by
 unfold hnB
 obtain ⟨k1,k2,k7⟩:=kind_node ha
 rw [leafR_node ha,leafR_node hb,if_neg k1,if_neg k2,if_neg k7,decide_eq_true hk]
 rfl
theorem lvsSl_len:∀ {xs ys:List Lv},xs.length≠ys.length→lvsSl xs ys=false
 | [],[],h=>absurd rfl h
 | [],_ :: _,_=>rfl
 | _ :: _,[],_=>rfl
 | x :: r,y :: s,h=>by
  show (slB x y && lvsSl r s)=false
  rw [lvsSl_len (xs:=r) (ys:=s) (by simpa using h),Bool.and_false]
theorem lvsSl_cons (x y:Lv) (r s:List Lv):lvsSl (x :: r) (y :: s)=(slB x y && lvsSl r s):=rfl
theorem nm_kind {t u:Tm} (h:t.kind≠u.kind):nearT t u=false:=by rw [near_eq];unfold hnB;rw [decide_eq_false h];rfl
theorem nm_var {t u:Tm} (hk:t.kind=u.kind) (k:t.kind=1):nearT t u=(t.num == u.num):=by
 obtain ⟨h1,h2⟩:=kind_leaf (t:=t) (.inl k)
 obtain ⟨-,h3⟩:=kind_leaf (t:=u) (.inl (by rw [← hk];exact k))
 rw [near_leaf (leafT_of h1)]
 unfold hnB
 rw [decide_eq_true hk,h2,h3,if_pos k]
 rfl
theorem nm_sort {t u:Tm} (hk:t.kind=u.kind) (k:t.kind=2):nearT t u=slB t.lv u.lv:=by
 obtain ⟨h1,h2⟩:=kind_leaf (t:=t) (.inr (.inl k))
 obtain ⟨-,h3⟩:=kind_leaf (t:=u) (.inr (.inl (by rw [← hk];exact k)))
 rw [near_leaf (leafT_of h1)]
 unfold hnB
 rw [decide_eq_true hk,h2,h3,if_neg (by omega),if_pos k]
 rfl
theorem nm_const {t u:Tm} (hk:t.kind=u.kind) (k:t.kind=7):nearT t u=((t.name.toList == u.name.toList) && lvsSl t.ls u.ls):=by
 obtain ⟨h1,h2⟩:=kind_leaf (t:=t) (.inr (.inr k))
 obtain ⟨-,h3⟩:=kind_leaf (t:=u) (.inr (.inr (by rw [← hk];exact k)))
 rw [near_leaf (leafT_of h1)]
 unfold hnB
 rw [decide_eq_true hk,h2,h3,if_neg (by omega),if_neg (by omega),if_pos k]
 simp
def alln (t u:Tm) (xs:List (Fin (nK t))):Bool:=xs.all fun i=>nearT (kidF t i) (u.kids.getD i.1 default)
theorem nm_node {t u:Tm} (hk:t.kind=u.kind) (ht:leafT t=false) (hu:leafT u=false):nearT t u=alln t u (List.finRange (nK t)):=by
 rw [near_eq,hn_node ht hu hk,Bool.true_and];rfl
theorem alln_cons (t u:Tm) (i:Fin (nK t)) (r:List (Fin (nK t))):alln t u (i :: r)=(nearT (kidF t i) (u.kids.getD i.1 default) && alln t u r):=rfl
theorem nm_leafR {t u:Tm} (h:leafR t≠leafR u):nearT t u=false:=by
 rw [near_eq]
 unfold hnB
 have:(leafR t == leafR u)=false:=by simpa using h
 rw [this]
 simp
theorem nm_leafRs {t u:Tm} (hk:t.kind=u.kind) (h:leafR t=true) (h2:leafR u=true):nearT t u=true:=by
 rw [near_leaf (leafT_of (nK_leaf h))]
 unfold hnB
 rw [decide_eq_true hk,h,h2]
 rfl
theorem leafR_nn {t:Tm} (h:leafR t=false) (h1:t.kind≠1) (h2:t.kind≠2) (h7:t.kind≠7):leafT t=false:=by
 cases hl:leafT t with
 | false=>rfl
 | true=>rw [leafR_leaf hl h1 h2 h7] at h;cases h
set_option maxRecDepth 100000 in
set_option maxHeartbeats 4000000 in
theorem near_calls (N:Nat):∀ (t:Tm),SizeOf.sizeOf t<N→∀ (u:Tm) (p q:Pl) (w:World),CmpOk t u→TmIn w w.heap.size p t→TmIn w w.heap.size q u →
  Calls Try.prog 68 #[tmV p t,tmV q u] w fun e w'=>e=.returned (.bool (nearT t u))∧Below w.heap.size w w':=by
 induction N with
 | zero=>intro t h;omega
 | succ N ih =>
  intro t hN u p q w hco hin hin2
  have HCO:=Ak hco
  clear hco
  have IH:=Ak ih
  have HNN:=Ak hN
  have HIN:=Ak hin
  have HIN2:=Ak hin2
  have hlt:=hin.len
  have hlu:=hin2.len
  have hlt9:t.kids.length≤9223372036854775807:=by omega
  have hlu9:u.kids.length≤9223372036854775807:=by omega
  have hfl:=hin.ls.len
  have hfu:=hin2.ls.len
  simp only [Lv.kids] at hfl hfu
  obtain ⟨W,hW⟩:∃ W,W=(w.alloc (tmO p t)).alloc (tmO q u):=⟨_,rfl⟩
  have hb:Below w.heap.size w W:=by rw [hW];exact below_alloc (below_alloc (Below.refl _ _) _) _
  have HX:=Ak (show W.heap[w.heap.size]?=some (tmO p t) by rw [hW];exact box0 w _ _)
  have HY:=Ak (show W.heap[w.heap.size+1]?=some (tmO q u) by rw [hW];exact box1 w _ _)
  have HB:=Ak hb
  clear ih hN hin hin2 hb
  unfold tmV
  unfold tmO at hW
  go_enter Try.func68,Try.ntmps68
  go_upto_region 1 with (fail)
  rw [← hW]
  clear hW
  by_cases hkk:t.kind=u.kind
  ·obtain ⟨la,hla⟩:∃ x,leafR t=x:=⟨_,rfl⟩
   obtain ⟨lb,hlb⟩:∃ x,leafR u=x:=⟨_,rfl⟩
   by_cases hll:la=lb
   ·refine nry_region W w.heap.size (w.heap.size+1) p q t u la lb false HX.out HY.out hkk hla hlb (by simp [hll]) hlt9 hlu9 ?_
    intro w1 hch
    have hb1:Below W.heap.size W w1:=hch.below (fun _ h=>h.elim False.elim False.elim) (Nat.le_refl _)
    have HB1:=Ak (below_then HB.out HB.out.size hb1)
    have HX1:=Ak ((hb1.block _ (blk_lt HX.out)).trans HX.out)
    have HY1:=Ak ((hb1.block _ (blk_lt HY.out)).trans HY.out)
    have HKK:=Ak hkk
    have HLA:=Ak hla
    have HLB:=Ak hlb
    clear hch hb1 hkk hla hlb HX HY
    subst hll
    obtain ⟨p0,p1,p2,p3,p4,p5,p6,p7⟩:=row8 HX1.out
    obtain ⟨q0,q1,q2,q3,q4,q5,q6,q7⟩:=row8 HY1.out
    clear p0 p1 p2 p3 p4 p5 p6 p7 q0 q1 q2 q3 q4 q5 q6 q7
    cases la with
    | true =>
     have HE:=Ak (nm_leafRs HKK.out HLA.out HLB.out)
     go_wp2_with (first
      | (refine wpList_load_row rfl 28 _ rfl (w.heap.size) rfl 28 _ (0,0) _ HX1.out Try.underlying28 rfl (by kernel_rfl) ?_)
      | (go_at_call 77;go_must (refine (refleaf_calls t p w1 hlt9).mono ?_;rintro e w2 ⟨rfl,hb⟩;rw [HLA.out];have HB2:=Ak (below_then HB1.out HB1.out.size hb);have HX2:=Ak ((hb.block _ (blk_lt HX1.out)).trans HX1.out);have HY2:=Ak ((hb.block _ (blk_lt HY1.out)).trans HY1.out);obtain ⟨p0,p1,p2,p3,p4,p5,p6,p7⟩:=row8 HX2.out;obtain ⟨q0,q1,q2,q3,q4,q5,q6,q7⟩:=row8 HY2.out;clear hb)))
     go_ret
     rw [HE.out]
     exact ⟨rfl,HB2.out⟩
    | false =>
     go_upto_region 5 with (first
      | (refine wpList_load_row rfl 28 _ rfl (w.heap.size) rfl 28 _ (0,0) _ HX1.out Try.underlying28 rfl (by kernel_rfl) ?_)
      | (go_at_call 77;go_must (refine (refleaf_calls t p w1 hlt9).mono ?_;rintro e w2 ⟨rfl,hb⟩;rw [HLA.out];have HB2:=Ak (below_then HB1.out HB1.out.size hb);have HX2:=Ak ((hb.block _ (blk_lt HX1.out)).trans HX1.out);have HY2:=Ak ((hb.block _ (blk_lt HY1.out)).trans HY1.out);obtain ⟨p0,p1,p2,p3,p4,p5,p6,p7⟩:=row8 HX2.out;obtain ⟨q0,q1,q2,q3,q4,q5,q6,q7⟩:=row8 HY2.out;clear hb)))
     by_cases k1:t.kind=1
     ·have b1:(t.kind == 1)=true:=by simp [k1]
      have HE:=Ak (nm_var HKK.out k1)
      clear k1
      go_wp2
      go_ret
      rw [HE.out]
      exact ⟨rfl,HB2.out⟩
     ·have b1:(t.kind == 1)=false:=by simp [k1]
      by_cases k2:t.kind=2
      ·have b2:(t.kind == 2)=true:=by simp [k2]
       have HE:=Ak (nm_sort HKK.out k2)
       have HK2:=Ak k2
       clear k1 k2
       go_wp2_with (go_at_call 29;go_must (refine (slevel_at p.A q.A p.c q.c _ _ _ _ _ _ t.lv u.lv w2 rfl rfl rfl rfl rfl rfl (HCO.out.lv HK2.out) (below_all HIN.out HB2.out).lv.all (below_all HIN2.out HB2.out).lv.all).mono ?_;rintro e w3 ⟨rfl,hb⟩;have HB3:=Ak (below_then HB2.out HB2.out.size hb);clear hb))
       go_ret
       rw [HE.out]
       exact ⟨rfl,HB3.out⟩
      ·have b2:(t.kind == 2)=false:=by simp [k2]
       by_cases k7:t.kind=7
       ·have b7:(t.kind == 7)=true:=by simp [k7]
        have HE:=Ak (nm_const HKK.out k7)
        have HK7:=Ak k7
        clear k1 k2 k7
        by_cases hn:t.name.toList=u.name.toList
        case neg =>
         have HE2:=Ak (show nearT t u=false by rw [HE.out,show (t.name.toList == u.name.toList)=false by simpa using hn,Bool.false_and])
         go_wp2
         go_ret
         rw [HE2.out]
         exact ⟨rfl,HB2.out⟩
        case pos =>
         have HE2:=Ak (show nearT t u=lvsSl t.ls u.ls by rw [HE.out,show (t.name.toList == u.name.toList)=true by simpa using hn,Bool.true_and])
         obtain ⟨M,hM1⟩:∃ M,t.ls.length=M:=⟨_,rfl⟩
         obtain ⟨M2,hM2⟩:∃ M,u.ls.length=M:=⟨_,rfl⟩
         have HM1:=Ak hM1
         rw [hM1] at p6 hfl
         rw [hM2] at q6 hfu
         clear hM1
         by_cases hmm:M=M2
         ·subst hmm
          have HM2:=Ak hM2
          have bm:((M:Int) != (M:Int))=false:=by simp
          clear hM2
          go_wp2
          clear hn p0 p1 p2 p3 p4 p5 p6 p7 q0 q1 q2 q3 q4 q5 q6 q7
          go_loopw [56] (fun i wr=>∃ k:Nat,i=.int .i64 k∧k≤M∧Aside0 (lvsSl (t.ls.drop k) (u.ls.drop k)=lvsSl t.ls u.ls)∧Aside0 (Below w2.heap.size w2 wr)) (fun i _=>M - (intOf i).toNat)
          case atStart=>exact ⟨0,rfl,Nat.zero_le _,⟨rfl⟩,⟨Below.refl _ _⟩⟩
          case round =>
           obtain ⟨k,rfl,hk,HK,HBR⟩:=hrel
           by_cases hlk:k<M
           ·obtain ⟨x,hx⟩:∃ x,t.ls[k]?=some x:=⟨_,List.getElem?_eq_getElem (by rw [HM1.out];exact hlk)⟩
            obtain ⟨y,hy⟩:∃ y,u.ls[k]?=some y:=⟨_,List.getElem?_eq_getElem (by rw [HM2.out];exact hlk)⟩
            have HBA:=Ak (below_then HB2.out HB2.out.size HBR.out)
            obtain ⟨A',c',hcs,hin⟩:=(TmIn.stay HIN.out HBA.out).ls.kid k x hx
            obtain ⟨B',d',hct,hin2⟩:=(TmIn.stay HIN2.out HBA.out).ls.kid k y hy
            obtain ⟨⟨ga,oa,sa⟩,hpB,hga,rfl,d1,d2,d3⟩:=hcs
            obtain ⟨⟨gd,od,sd⟩,hqB,hgd,rfl,f1,f2,f3⟩:=hct
            rw [add_flat] at d1 d2 d3 f1 f2 f3
            have HDX:=Ak (drop_lv hx)
            have HDY:=Ak (drop_lv hy)
            have HXI:=Ak hin.all
            have HYI:=Ak hin2.all
            have HOK:=Ak (HCO.out.ls HK7.out k x y hx hy)
            obtain ⟨r,hr⟩:∃ r,slB x y=r:=⟨_,rfl⟩
            have HR:=Ak hr
            have HXR:=Ak ((HBR.out.block _ (blk_lt HX2.out)).trans HX2.out)
            have HYR:=Ak ((HBR.out.block _ (blk_lt HY2.out)).trans HY2.out)
            have hzr:=HBA.out.size
            have hga:ga<w.heap.size:=hga
            have hgd:gd<w.heap.size:=hgd
            go_upto_region 16 with (fail)
            refine nrl_region wr w.heap.size (w.heap.size+1) k p q t u ga oa gd od M x.kind x.num y.kind y.num A' B' x.kids.length c' y.kids.length d' r HXR.out HYR.out hpB hqB HM1.out HM2.out (by omega) (by omega) hlk (by omega)
             d1 d2 d3 f1 f2 f3 (fun w9 hb9=>by rw [← hr];exact slevel_at A' B' c' d' _ _ _ _ _ _ x y w9 rfl rfl rfl rfl rfl rfl HOK.out (LvIn.stay HXI.out hb9).all (LvIn.stay HYI.out hb9).all) ?_
            intro w5 hch
            have HB5:=Ak (below_then HBR.out HBR.out.size (hch.below (fun _ h=>h.elim False.elim False.elim) (Nat.le_refl _)))
            clear hch d1 d2 d3 f1 f2 f3 hpB hqB hga hgd hin hin2 hx hy hr
            cases r with
            | true =>
             have HK2:=Ak (show lvsSl (t.ls.drop (k+1)) (u.ls.drop (k+1))=lvsSl t.ls u.ls by rw [← HK.out,HDX.out,HDY.out,lvsSl_cons,HR.out,Bool.true_and])
             go_wp2
             go_roundw
             case rel=>exact ⟨k+1,by go_num,by omega,HK2,HB5⟩
             case measure=>(simp [intOf];try omega)
            | false =>
             have HK2:=Ak (show nearT t u=false by rw [HE2.out,← HK.out,HDX.out,HDY.out,lvsSl_cons,HR.out,Bool.false_and])
             have HFN:=Ak (below_then HB2.out HB2.out.size HB5.out)
             go_wp2
             go_ret
             rw [HK2.out]
             exact ⟨rfl,HFN.out⟩
           ·obtain rfl:k=M:=by omega
            have hlt':decide ((k:Int)<k)=false:=by simp
            have HZ:=Ak (show nearT t u=true by rw [HE2.out,← HK.out,List.drop_of_length_le (by rw [HM1.out];exact Nat.le_refl _),List.drop_of_length_le (by rw [HM2.out];exact Nat.le_refl _)];rfl)
            have HFN:=Ak (below_then HB2.out HB2.out.size HBR.out)
            go_wp2
            go_ret
            rw [HZ.out]
            exact ⟨rfl,HFN.out⟩
         ·have bm:((M:Int) != (M2:Int))=true:=by simp;omega
          have HE3:=Ak (show nearT t u=false by rw [HE2.out];exact lvsSl_len (by rw [HM1.out,hM2];exact hmm))
          clear hmm hM2
          go_wp2
          go_ret
          rw [HE3.out]
          exact ⟨rfl,HB2.out⟩
       ·have b7:(t.kind == 7)=false:=by simp [k7]
        have HKN:=Ak (And.intro (leafR_nn HLA.out k1 k2 k7) (leafR_nn HLB.out (by rw [← HKK.out];exact k1) (by rw [← HKK.out];exact k2) (by rw [← HKK.out];exact k7)))
        clear k1 k2 k7
        have HE:=Ak (nm_node HKK.out HKN.out.1 HKN.out.2)
        have HLA:=Ak HKN.out.1
        have HLB:=Ak HKN.out.2
        obtain ⟨ar,har⟩:∃ x,nK t=x:=⟨_,rfl⟩
        have HAR:=Ak har
        have hnk:=nK_ar (leaf_nK' HKN.out.1)
        have HAC:=Ak (show ∀ w,Calls Try.prog 39 #[.int .i64 t.kind] w fun e w'=>e=.returned (.int .i64 (ar:Int))∧w'=w from fun w=>by rw [← har,hnk];exact refkids_calls _ _)
        have har3:ar≤3:=by rw [← har];exact nK_le3 t
        have hart:ar≤t.kids.length:=by rw [← har];exact nK_le t
        have haru:ar≤u.kids.length:=by rw [← har,nK_same HKK.out HKN.out.1 HKN.out.2];exact nK_le u
        clear har hnk p1 p2 p3 p4 p5 p6 p7 q0 q1 q2 q3 q4 q5 q6 q7
        go_wp2_with (go_at_call 39;go_must (refine (HAC.out _).mono ?_;rintro e w3 ⟨rfl,h3⟩;have h3:=h3.symm;subst h3))
        clear p0
        go_loopw [75] (fun i wr=>∃ k:Nat,i=.int .i64 k∧k≤ar∧Aside0 (alln t u ((List.finRange (nK t)).drop k)=nearT t u)∧Aside0 (Below w2.heap.size w2 wr)) (fun i _=>ar - (intOf i).toNat)
        case atStart=>exact ⟨0,rfl,Nat.zero_le _,⟨by rw [List.drop_zero];exact HE.out.symm⟩,⟨Below.refl _ _⟩⟩
        case round =>
         obtain ⟨k,rfl,hk,HK,HBR⟩:=hrel
         by_cases hlk:k<ar
         ·have hkn:k<nK t:=by rw [HAR.out];exact hlk
          have hkm:k<nK u:=by rw [← nK_same HKK.out HLA.out HLB.out];exact hkn
          have HDF:=Ak (drop_fin hkn)
          have HBA:=Ak (below_then HB2.out HB2.out.size HBR.out)
          obtain ⟨qq,hqq⟩:=(TmIn.stay HIN.out HBA.out).kid
          obtain ⟨qr,hqr⟩:=(TmIn.stay HIN2.out HBA.out).kid
          obtain ⟨⟨ga,oa,hpK,hga,hca⟩,hxin⟩:=hqq k _ (kidF_get t ⟨k,hkn⟩)
          obtain ⟨⟨gd,od,hqK,hgd,hcb⟩,hyin⟩:=hqr k _ (kidF_get u ⟨k,hkm⟩)
          have HGD:=Ak (show u.kids.getD k default=kidF u ⟨k,hkm⟩ by rw [List.getD_eq_getElem?_getD,kidF_get u ⟨k,hkm⟩];rfl)
          have HCK:=Ak (HCO.out.kid ⟨k,hkn⟩)
          have HAL:=Ak (alln_cons t u ⟨k,hkn⟩ ((List.finRange (nK t)).drop (k+1)))
          have HXL:=Ak (kidF_lt t ⟨k,hkn⟩)
          obtain ⟨x,hxe⟩:∃ x,kidF t ⟨k,hkn⟩=x:=⟨_,rfl⟩
          obtain ⟨y,hye⟩:∃ y,kidF u ⟨k,hkm⟩=y:=⟨_,rfl⟩
          rw [hxe] at hca hxin HAL HXL HCK
          rw [hye] at hcb hyin HGD
          rw [HGD.out] at HAL HCK
          have HXI:=Ak (TmS.all hxin)
          have HYI:=Ak (TmS.all hyin)
          have HXR:=Ak ((HBR.out.block _ (blk_lt HX2.out)).trans HX2.out)
          have HYR:=Ak ((HBR.out.block _ (blk_lt HY2.out)).trans HY2.out)
          obtain ⟨r,hr⟩:∃ r,nearT x y=r:=⟨_,rfl⟩
          have HR:=Ak hr
          have hzr:=HBA.out.size
          have ca:=fun (j:Nat) (v:Value) (h:(tmC (qq k) x)[j]?=some v)=>hca j v h
          have cb:=fun (j:Nat) (v:Value) (h:(tmC (qr k) y)[j]?=some v)=>hcb j v h
          go_upto_region 23 with (fail)
          refine nrk_region wr w.heap.size (w.heap.size+1) k p q t u ga oa gd od t.kids.length u.kids.length (qq k) (qr k) x y r HXR.out HYR.out hpK hqK rfl rfl (by omega) (by omega) (by omega) (by omega) hlt9 hlu9 (by omega)
           (ca 0 _ rfl) (ca 1 _ rfl) (ca 2 _ rfl) (ca 3 _ rfl) (ca 4 _ rfl) (ca 5 _ rfl) (ca 6 _ rfl) (ca 7 _ rfl) (cb 0 _ rfl) (cb 1 _ rfl) (cb 2 _ rfl) (cb 3 _ rfl) (cb 4 _ rfl) (cb 5 _ rfl) (cb 6 _ rfl) (cb 7 _ rfl)
           (fun w9 hb9=>by rw [← hr];exact IH.out x (by have:=HXL.out;have:=HNN.out;omega) y (qq k) (qr k) w9 HCK.out (below_all HXI.out hb9) (below_all HYI.out hb9)) ?_
          intro w5 hch
          have HB5:=Ak (below_then HBR.out HBR.out.size (hch.below (fun _ h=>h.elim False.elim False.elim) (Nat.le_refl _)))
          clear hch hca hcb hxin hyin hpK hqK hga hgd hqq hqr hxe hye ca cb hr
          cases r with
          | true =>
           have HK2:=Ak (show alln t u ((List.finRange (nK t)).drop (k+1))=nearT t u by rw [← HK.out,HDF.out,HAL.out,HR.out,Bool.true_and])
           go_wp2
           go_roundw
           case rel=>exact ⟨k+1,by go_num,by omega,HK2,HB5⟩
           case measure=>(simp [intOf];try omega)
          | false =>
           have HK2:=Ak (show nearT t u=false by rw [← HK.out,HDF.out,HAL.out,HR.out,Bool.false_and])
           have HFN:=Ak (below_then HB2.out HB2.out.size HB5.out)
           go_wp2
           go_ret
           rw [HK2.out]
           exact ⟨rfl,HFN.out⟩
         ·obtain rfl:k=ar:=by omega
          have hlt':decide ((k:Int)<k)=false:=by simp
          have HZ:=Ak (show nearT t u=true by rw [← HK.out,List.drop_of_length_le (by rw [List.length_finRange,HAR.out];exact Nat.le_refl _)];rfl)
          have HFN:=Ak (below_then HB2.out HB2.out.size HBR.out)
          go_wp2
          go_ret
          rw [HZ.out]
          exact ⟨rfl,HFN.out⟩
   ·refine nry_region W w.heap.size (w.heap.size+1) p q t u la lb true HX.out HY.out hkk hla hlb (by simp [hll]) hlt9 hlu9 ?_
    intro w1 hch
    have hb1:Below W.heap.size W w1:=hch.below (fun _ h=>h.elim False.elim False.elim) (Nat.le_refl _)
    have HB1:=Ak (below_then HB.out HB.out.size hb1)
    have HX1:=Ak ((hb1.block _ (blk_lt HX.out)).trans HX.out)
    have HY1:=Ak ((hb1.block _ (blk_lt HY.out)).trans HY.out)
    have HKK:=Ak hkk
    have HLA:=Ak hla
    have HLB:=Ak hlb
    clear hch hb1 hkk hla hlb HX HY
    have HE:=Ak (nm_leafR (t:=t) (u:=u) (by rw [HLA.out,HLB.out];exact hll))
    clear hll
    go_wp2
    go_ret
    rw [HE.out]
    exact ⟨rfl,HB1.out⟩
  ·refine nrn_region W w.heap.size (w.heap.size+1) p q t u HX.out HY.out hkk ?_
   intro w1 hch
   have HB1:=Ak (below_then HB.out HB.out.size (hch.below (fun _ h=>h.elim False.elim False.elim) (Nat.le_refl _)))
   have HE:=Ak (nm_kind hkk)
   clear hch hkk
   go_wp2
   go_ret
   rw [HE.out]
   exact ⟨rfl,HB1.out⟩
end Go.Proofs.Ytdboloabpjmgaaa

namespace Go.Proofs.Ytdboloabpjmgaaa
open Go.RowKit Go.Proofs.YtdboloabpjmgaaaW.PrintWords Go.RegionInvYtdboloabpjmgaaa Go.RegionEYtdboloabpjmgaaa

abbrev rwgW (w:World) (dd ff by_:Int) (cp:Pl) (cv:Tm) (L9:Option Addr) (n9 c9:Nat) (p:Pl) (t:Tm):World:=((w.alloc (.cells (chG dd ff by_ cp cv L9 n9 c9) 71 (0,0))).alloc (tmO p t)).alloc (outK 0 (.slice none 0 0))
theorem rwg_box (w:World) (dd ff by_:Int) (cp:Pl) (cv:Tm) (L9:Option Addr) (n9 c9:Nat) (p:Pl) (t:Tm):Below w.heap.size w (rwgW w dd ff by_ cp cv L9 n9 c9 p t)∧(rwgW w dd ff by_ cp cv L9 n9 c9 p t).heap[w.heap.size]?=some (.cells (chG dd ff by_ cp cv L9 n9 c9) 71 (0,0))∧(rwgW w dd ff by_ cp cv L9 n9 c9 p t).heap[w.heap.size+1]?=some (tmO p t)∧(rwgW w dd ff by_ cp cv L9 n9 c9 p t).heap[w.heap.size+1+1]?=some (outK 0 (.slice none 0 0))∧(rwgW w dd ff by_ cp cv L9 n9 c9 p t).heap.size=w.heap.size+3:=by
 refine ⟨below_alloc (below_alloc (below_alloc (Below.refl _ _) _) _) _,blk_alloc (box0 w _ _) _,blk_alloc (box1 w _ _) _,?_,by simp⟩
 have:=blk_new ((w.alloc (.cells (chG dd ff by_ cp cv L9 n9 c9) 71 (0,0))).alloc (tmO p t)) (outK 0 (.slice none 0 0))
 simp only [World.size_alloc] at this
 exact this
section
variable (dd ff by_:Int) (cp:Pl) (cv:Tm) (L9:Option Addr) (n9 c9:Nat) (RL:Tm→Int→Tm) (g1:Nat) (S:Nat→Prop) (Rep:World→Prop)
set_option maxRecDepth 100000 in
set_option maxHeartbeats 8000000 in
theorem rwg_leaf (hS:∀ k,S k→k<g1) (hRep:∀ W W',Rep W→(∀ k,k<g1→W'.heap[k]?=W.heap[k]?)→Rep W')
  (t:Tm) (d:Int) (hlf2:∀ (S':Nat→Prop) (q:Pl) (w:World),g1≤w.heap.size→Rep w→(∀ k,S' k→k<w.heap.size)→(∀ k,S k→S' k)→TmS w S' q (bareG t)→Calls Try.prog 98 #[chGV dd ff by_ cp cv L9 n9 c9,tmV q (bareG t),.int .i64 d] w (TmGot w S' (RL t d)))
  (h0:nK t=0) (p:Pl) (w:World) (hg1:g1≤w.heap.size) (hR:Rep w) (hin:TmS w S p t) :
  Calls Try.prog 66 #[chGV dd ff by_ cp cv L9 n9 c9,tmV p t,.int .i64 d] w (TmGot w S (rebP RL t d)):=by
 have HSS:=Ak hS
 have HE:=Ak (show rebP RL t d=RL t d from reb_leaf (decide_eq_true h0))
 have HIN:=Ak hin
 have HRW:=Ak hR
 have HRP:=Ak hRep
 have HLF2:=Ak hlf2
 have hlen:=hin.len
 obtain ⟨W,hW⟩:∃ W,W=rwgW w dd ff by_ cp cv L9 n9 c9 p t:=⟨_,rfl⟩
 obtain ⟨hb,hc,hx,hr,hz⟩:=rwg_box w dd ff by_ cp cv L9 n9 c9 p t
 rw [← hW] at hb hc hx hr hz
 have HB:=Ak hb
 have HC:=Ak hc
 have HX:=Ak hx
 have HR:=Ak hr
 have HZ:=Ak hz
 obtain ⟨ar,har⟩:∃ x,arZ t.kind=x:=⟨_,rfl⟩
 have HAC:=Ak (show ∀ w,Calls Try.prog 39 #[.int .i64 t.kind] w fun e w'=>e=.returned (.int .i64 ar)∧w'=w from fun w=>by rw [← har];exact refkids_calls _ _)
 clear hb hc hx hr hz hin hR hRep hlf2 hS
 unfold rwgW at hW
 cases hlf:leafR t with
 | true =>
  have HLF:=Ak hlf
  clear hlf h0
  unfold chGV tmV
  unfold tmO at hW
  go_enter Try.func66,Try.ntmps66
  go_upto_region 1 with (fail)
  rw [← hW]
  clear hW
  go_upto_region 2 with (first
   | (refine wpList_load_row rfl 28 _ rfl (w.heap.size+1) rfl 28 _ (0,0) _ HX.out Try.underlying28 rfl (by kernel_rfl) ?_)
   | (go_at_call 77;go_must (refine (refleaf_calls t p W (by omega)).mono ?_;rintro e w2 ⟨rfl,hb⟩;rw [HLF.out];have HBW:=Ak hb;have HB2:=Ak (below_then HB.out HB.out.size hb);have HC2:=Ak ((hb.block _ (blk_lt HC.out)).trans HC.out);have HX2:=Ak ((hb.block _ (blk_lt HX.out)).trans HX.out);have HR2:=Ak ((hb.block _ (blk_lt HR.out)).trans HR.out);clear hb)))
  have hzW:=HB2.out.size
  have hzl:=blk_lt HR2.out
  refine rg2_region w2 (w.heap.size) (w.heap.size+1) (w.heap.size+1+1) S dd ff by_ cp cv L9 n9 c9 p t (rebP RL t d) d HC2.out HX2.out HR2.out (by omega) (by omega) (fun k h=>by have:=HSS.out k h;omega) (TmS.stay HIN.out HSS.out (HB2.out.mono hg1)) (fun S' q w5 h1 h2 h5 h6=>by rw [HE.out];exact HLF2.out S' q w5 (Nat.le_trans hg1 (Nat.le_trans HB2.out.size h5.size)) (HRP.out _ _ HRW.out (fun k hk=>(h5.block k (by omega) (by omega)).trans (HB2.out.block k (by omega)))) h1 h2 h6) ?_
  intros
  rename_i hC hF hO5
  obtain ⟨pp,hpe,q9,hq1,hq2,hq3⟩:=hF
  obtain rfl:pp=w.heap.size+1+1:=by injection hpe with hpe;injection hpe with hpe;injection hpe with hpe;exact hpe.symm
  obtain ⟨y,hy⟩:∃ y,y=rebP RL t d:=⟨_,rfl⟩
  rw [← hy] at hq1 hq3
  have HY:=Ak hy
  have HQ1:=Ak hq1
  have HQ3:=Ak hq3
  have HO5:=Ak hO5
  have HCC:=Ak hC
  clear hq1 hq3 hO5 hC hpe hy hq2
  go_wp2
  refine bodyPost_ret (results_c rfl _ _ (w.heap.size+1+1) 28 #[.int .i64 y.kind,.int .i64 y.num,.string y.name,.int .i64 y.lv.kind,.int .i64 y.lv.num,.slice q9.A y.lv.kids.length q9.c,.slice q9.B y.ls.length q9.d,.slice q9.K y.kids.length q9.e] (0,0) _ rfl HQ1.out Try.underlying28 rfl (by kernel_rfl)) rfl ?_
  rw [← HY.out]
  refine ⟨q9,rfl,HQ3.out.mono fun k hk hz=>?_,Chg.trans_below HB2.out HCC.out (fun k e=>by rcases e with e | e;(have e:k=w.heap.size+1+1:=e;omega);exact e.elim) HB2.out.size⟩
  rcases hk with hk | hk
  ·exact .inl hk
  ·rcases Nat.lt_or_ge k w2.heap.size with h | h
   ·exact absurd (est2_fix h (fun e=>hk.2 e) (fun e=>e.elim)) (HO5.out k hk.1).2
   ·exact .inr (by omega)
 | false =>
  have HLF:=Ak hlf
  have ha0:ar=0:=by have:=nK_eq hlf;rw [h0,har] at this;omega
  subst ha0
  clear hlf h0
  unfold chGV tmV
  unfold tmO at hW
  go_enter Try.func66,Try.ntmps66
  go_upto_region 1 with (fail)
  rw [← hW]
  clear hW
  go_upto_region 2 with (first
   | (refine wpList_load_row rfl 28 _ rfl (w.heap.size+1) rfl 28 _ (0,0) _ HX.out Try.underlying28 rfl (by kernel_rfl) ?_)
   | (go_at_call 77;go_must (refine (refleaf_calls t p W (by omega)).mono ?_;rintro e w2 ⟨rfl,hb⟩;rw [HLF.out];have HBW:=Ak hb;have HB2:=Ak (below_then HB.out HB.out.size hb);have HC2:=Ak ((hb.block _ (blk_lt HC.out)).trans HC.out);have HX2:=Ak ((hb.block _ (blk_lt HX.out)).trans HX.out);have HR2:=Ak ((hb.block _ (blk_lt HR.out)).trans HR.out);have c0:=(row8 HX2.out).1;clear hb))
   | (go_at_call 39;go_must (refine (HAC.out _).mono ?_;rintro e w3 ⟨rfl,h3⟩;have h3:=h3.symm;subst h3)))
  have hzW:=HB2.out.size
  have hzl:=blk_lt HR2.out
  refine rg2_region w2 (w.heap.size) (w.heap.size+1) (w.heap.size+1+1) S dd ff by_ cp cv L9 n9 c9 p t (rebP RL t d) d HC2.out HX2.out HR2.out (by omega) (by omega) (fun k h=>by have:=HSS.out k h;omega) (TmS.stay HIN.out HSS.out (HB2.out.mono hg1)) (fun S' q w5 h1 h2 h5 h6=>by rw [HE.out];exact HLF2.out S' q w5 (Nat.le_trans hg1 (Nat.le_trans HB2.out.size h5.size)) (HRP.out _ _ HRW.out (fun k hk=>(h5.block k (by omega) (by omega)).trans (HB2.out.block k (by omega)))) h1 h2 h6) ?_
  intros
  rename_i hC hF hO5
  obtain ⟨pp,hpe,q9,hq1,hq2,hq3⟩:=hF
  obtain rfl:pp=w.heap.size+1+1:=by injection hpe with hpe;injection hpe with hpe;injection hpe with hpe;exact hpe.symm
  obtain ⟨y,hy⟩:∃ y,y=rebP RL t d:=⟨_,rfl⟩
  rw [← hy] at hq1 hq3
  have HY:=Ak hy
  have HQ1:=Ak hq1
  have HQ3:=Ak hq3
  have HO5:=Ak hO5
  have HCC:=Ak hC
  clear hq1 hq3 hO5 hC hpe hy hq2
  go_wp2
  refine bodyPost_ret (results_c rfl _ _ (w.heap.size+1+1) 28 #[.int .i64 y.kind,.int .i64 y.num,.string y.name,.int .i64 y.lv.kind,.int .i64 y.lv.num,.slice q9.A y.lv.kids.length q9.c,.slice q9.B y.ls.length q9.d,.slice q9.K y.kids.length q9.e] (0,0) _ rfl HQ1.out Try.underlying28 rfl (by kernel_rfl)) rfl ?_
  rw [← HY.out]
  refine ⟨q9,rfl,HQ3.out.mono fun k hk hz=>?_,Chg.trans_below HB2.out HCC.out (fun k e=>by rcases e with e | e;(have e:k=w.heap.size+1+1:=e;omega);exact e.elim) HB2.out.size⟩
  rcases hk with hk | hk
  ·exact .inl hk
  ·rcases Nat.lt_or_ge k w2.heap.size with h | h
   ·exact absurd (est2_fix h (fun e=>hk.2 e) (fun e=>e.elim)) (HO5.out k hk.1).2
   ·exact .inr (by omega)
set_option maxRecDepth 100000 in
set_option maxHeartbeats 8000000 in
theorem rwg_calls (hS:∀ k,S k→k<g1) (hRep:∀ W W',Rep W→(∀ k,k<g1→W'.heap[k]?=W.heap[k]?)→Rep W')
  (hlf1:∀ (t:Tm) (d:Int) (S':Nat→Prop) (q:Pl) (w:World),leafT t=true→0≤d→d≤1000000→g1≤w.heap.size→Rep w→(∀ k,S' k→k<w.heap.size)→(∀ k,S k→S' k)→TmS w S' q (bareG t)→Calls Try.prog 98 #[chGV dd ff by_ cp cv L9 n9 c9,tmV q (bareG t),.int .i64 d] w (TmGot w S' (RL t d)))
  (N:Nat):∀ (t:Tm),SizeOf.sizeOf t<N→∀ (p:Pl) (d:Int) (w:World),0≤d→d+depthT t≤1000000→g1≤w.heap.size→Rep w→TmS w S p t →
  Calls Try.prog 66 #[chGV dd ff by_ cp cv L9 n9 c9,tmV p t,.int .i64 d] w (TmGot w S (rebP RL t d)):=by
 induction N with
 | zero=>intro t h;omega
 | succ N ih =>
  intro t hN p d w hd0 hd1 hg1 hR hin
  have hdp:=depth_pos t
  by_cases h0:nK t=0
  ·exact rwg_leaf dd ff by_ cp cv L9 n9 c9 RL g1 S Rep hS hRep t d (fun S' q w=>hlf1 t d S' q w (decide_eq_true h0) hd0 (by omega)) h0 p w hg1 hR hin
  have hlt0:leafT t=false:=decide_eq_false h0
  obtain ⟨hk1,hk2,hk7⟩:=kind_node hlt0
  have HLF:=Ak (leafR_node hlt0)
  have HBE:=Ak (show bareT t=.mk t.kind 0 noName lv0 [] [] by unfold bareT;exact congrArg (fun z=>Tm.mk t.kind z noName lv0 [] []) (if_neg (fun h=>hk1 h.2)))
  have HE:=Ak (show rebP RL t d=.mk t.kind 0 noName (.mk 0 0 []) [] (rebKids RL t d (List.finRange (nK t))) from reb_node hlt0)
  have IH:=Ak ih
  have HNN:=Ak hN
  have HD1:=Ak hd1
  have HSS:=Ak hS
  have HIN:=Ak hin
  have HRW:=Ak hR
  have HRP:=Ak hRep
  have hlen:=hin.len
  obtain ⟨ar,har⟩:∃ x,arZ t.kind=x:=⟨_,rfl⟩
  have HAC:=Ak (show ∀ w,Calls Try.prog 39 #[.int .i64 t.kind] w fun e w'=>e=.returned (.int .i64 ar)∧w'=w from fun w=>by rw [← har];exact refkids_calls _ _)
  obtain ⟨ha1,ha2,ha3⟩:=nK_eq HLF.out
  rw [har] at ha1 ha2 ha3
  obtain ⟨m,hm⟩:∃ x,nK t=x:=⟨_,rfl⟩
  rw [hm] at ha1 h0
  subst ha1
  have HNK:=Ak hm
  have hne:((m:Int) == 0)=false:=by simp;omega
  have hm3:m≤3:=by rw [← hm];exact nK_le3 t
  have hmL:m≤t.kids.length:=by omega
  have hme:m≤p.e:=by omega
  have hmeI:(m:Int)≤p.e:=by omega
  have HBR:=Ak (show ∀ w,Calls Try.prog 99 #[tmV p t] w fun e w'=>e=.returned (.agg #[.int .i64 t.kind,.int .i64 0,.string ⟨#[]⟩,.int .i64 0,.int .i64 0,.slice none 0 0,.slice none 0 0,.slice none 0 0])∧Below w.heap.size w w' from fun w=>(bare_calls t p w hk2 hk7 (by omega) hin.fit.1).mono (by rintro e w' ⟨h,hb⟩;rw [HBE.out] at h;exact ⟨h,hb⟩))
  clear ih hN hd1 hS hin hR hRep hlf1 har ha2 ha3 hm hk1 hk2 hk7 hlt0 hdp
  obtain ⟨W,hW⟩:∃ W,W=rwgW w dd ff by_ cp cv L9 n9 c9 p t:=⟨_,rfl⟩
  obtain ⟨hb,hc,hx,hr,hz⟩:=rwg_box w dd ff by_ cp cv L9 n9 c9 p t
  rw [← hW] at hb hc hx hr hz
  have HB:=Ak hb
  have HC:=Ak hc
  have HX:=Ak hx
  have HR:=Ak hr
  have HZ:=Ak hz
  clear hb hc hx hr hz
  unfold rwgW at hW
  unfold chGV tmV
  unfold tmO at hW
  go_enter Try.func66,Try.ntmps66
  go_upto_region 1 with (fail)
  rw [← hW]
  clear hW
  go_upto_region 3 with (first
   | (refine wpList_load_row rfl 28 _ rfl (w.heap.size+1) rfl 28 _ (0,0) _ HX.out Try.underlying28 rfl (by kernel_rfl) ?_)
   | (go_at_call 77;go_must (refine (refleaf_calls t p W (by omega)).mono ?_;rintro e w2 ⟨rfl,hb⟩;rw [HLF.out];have HBW:=Ak hb;have HB2:=Ak (below_then HB.out HB.out.size hb);have HC2:=Ak ((hb.block _ (blk_lt HC.out)).trans HC.out);have HX2:=Ak ((hb.block _ (blk_lt HX.out)).trans HX.out);have HR2:=Ak ((hb.block _ (blk_lt HR.out)).trans HR.out);have c0:=(row8 HX2.out).1;clear hb))
   | (go_at_call 39;go_must (refine (HAC.out _).mono ?_;rintro e w3 ⟨rfl,h3⟩;have h3:=h3.symm;subst h3)))
  go_upto_region 4 with (first
   | (refine wpList_load_row rfl 28 _ rfl (w.heap.size+1) rfl 28 _ (0,0) _ HX2.out Try.underlying28 rfl (by kernel_rfl) ?_)
   | (go_at_call 99;go_must (refine (HBR.out w2).mono ?_;rintro e w3 ⟨rfl,hb⟩;have HB3:=Ak (below_then HB2.out HB2.out.size hb);have HC3:=Ak ((hb.block _ (blk_lt HC2.out)).trans HC2.out);have HX3:=Ak ((hb.block _ (blk_lt HX2.out)).trans HX2.out);have HR3:=Ak ((hb.block _ (blk_lt HR2.out)).trans HR2.out);clear hb)))
  obtain ⟨W4,hW4⟩:∃ W4,W4=w3.alloc (outK t.kind (.slice none 0 0)):=⟨_,rfl⟩
  have hb4:Below w3.heap.size w3 W4:=by rw [hW4];exact below_alloc (Below.refl _ _) _
  have HO4:=Ak (show W4.heap[w3.heap.size]?=some (outK t.kind (.slice none 0 0)) by rw [hW4];exact blk_new _ _)
  have hz4:W4.heap.size=w3.heap.size+1:=by rw [hW4];simp
  have HB4:=Ak (below_then HB3.out HB3.out.size hb4)
  have HC4:=Ak ((hb4.block _ (blk_lt HC3.out)).trans HC3.out)
  have HX4:=Ak ((hb4.block _ (blk_lt HX3.out)).trans HX3.out)
  have HR4:=Ak ((hb4.block _ (blk_lt HR3.out)).trans HR3.out)
  unfold outK at hW4
  rw [← hW4]
  clear hW4 hb4 c0 h3
  have c7:=(row8 HX4.out).2.2.2.2.2.2.2
  have c0:=(row8 HX4.out).1
  go_quiet ((go_at_call 39;exact Calls.quiet_of_same (HAC.out _)))
  have HOB4:W4.heap.size=w3.heap.size+1:=hz4
  obtain ⟨Ob,hOb⟩:∃ x,w3.heap.size=x:=⟨_,rfl⟩
  rw [hOb] at HO4 HOB4 ⊢
  have HOZ:=Ak HOB4
  have hOw:w.heap.size+1+1<Ob:=by have:=blk_lt HR3.out;omega
  obtain ⟨qq,hq⟩:=HIN.out.kid
  have HQ:=Ak hq
  clear hq c0 c7 hz4 HOB4 hOb
  go_wp2
  go_loopw [32] (fun i wr=>∃ (k:Nat) (V:Value),i=.int .i64 k∧k≤m∧Aside0 (wr.heap[Ob]?=some (outK t.kind V))∧Aside0 (KidsT wr S (Ob+1) V (rebKids RL t d ((List.finRange (nK t)).take k)))∧Aside0 (Chg (fun k=>k=Ob) W4 wr)) (fun i _=>m - (intOf i).toNat)
  case atStart =>
   have hbn:Below W4.heap.size W4 (W4.drewN nq):=below_drewN (Below.refl _ _) _
   exact ⟨0,.slice none 0 0,rfl,Nat.zero_le _,⟨(hbn.block _ (blk_lt HO4.out)).trans HO4.out⟩,⟨KidsT.nil _ _ _⟩,⟨Chg.of_below hbn⟩⟩
  case round =>
   obtain ⟨k,V,rfl,hk,HOR,HKR,HGR⟩:=hrel
   by_cases hlt:k<m
   ·have hkn:k<nK t:=by rw [HNK.out];exact hlt
    have hx:=kidF_get t ⟨k,hkn⟩
    have HTK:=Ak (take_fin hkn)
    obtain ⟨x,hxe⟩:∃ x,kidF t ⟨k,hkn⟩=x:=⟨_,rfl⟩
    have HDK:=Ak (depth_kid t ⟨k,hkn⟩)
    have HXL:=Ak (kidF_lt t ⟨k,hkn⟩)
    rw [hxe] at hx HDK HXL
    have HXE:=Ak hxe
    obtain ⟨⟨bk,o,hpK,hSb,hcells⟩,hxin⟩:=HQ.out k x hx
    have HSB:=Ak hSb
    have hkeep:∀ j,j<g1→wr.heap[j]?=w.heap[j]?:=fun j hj=>(HGR.out.block j (by have:=HB4.out.size;omega) (by omega)).trans (HB4.out.block j (by omega))
    have HKEEP:=Ak hkeep
    have hbk:∀ j v,(tmC (qq k) x)[j]?=some v→wr.cell? ⟨bk,o+k * 8+j,none⟩=some v:=fun j v hv=>(cell_same (hkeep bk (HSS.out _ hSb))).trans (hcells j v hv)
    have d0:=hbk 0 _ rfl
    have d1:=hbk 1 _ rfl
    have d2:=hbk 2 _ rfl
    have d3:=hbk 3 _ rfl
    have d4:=hbk 4 _ rfl
    have d5:=hbk 5 _ rfl
    have d6:=hbk 6 _ rfl
    have d7:=hbk 7 _ rfl
    rw [Nat.add_zero] at d0
    have HXIN:=Ak (show TmS wr S (qq k) x from TmS.same hxin fun j hj _=>hkeep j (HSS.out _ hj))
    rw [hpK]
    clear hcells hx hxin hbk hpK hxe hkeep hSb
    go_upto_region 7 with (fail)
    obtain ⟨W5,hW5⟩:∃ W5,W5=wr.alloc (tmO (qq k) x):=⟨_,rfl⟩
    have hb5:Below wr.heap.size wr W5:=by rw [hW5];exact below_alloc (Below.refl _ _) _
    have hX5:W5.heap[wr.heap.size]?=some (tmO (qq k) x):=by rw [hW5];exact blk_new _ _
    have hzr:=HGR.out.size
    have hz0:=HOZ.out
    have hO5:W5.heap[Ob]?=some (outK t.kind V):=(hb5.block _ (blk_lt HOR.out)).trans HOR.out
    have hC5:=(hb5.block _ (by omega)).trans ((HGR.out.block _ (by omega) (by omega)).trans HC4.out)
    have hT5:=(hb5.block _ (by omega)).trans ((HGR.out.block _ (by omega) (by omega)).trans HX4.out)
    have hz5:=hb5.size
    unfold tmO at hW5
    rw [← hW5]
    clear hW5
    have HK5:=HKR.out.later hb5
    obtain ⟨cells,qz,hown,hkids⟩:=HKR.out
    obtain ⟨A9,c8,rfl⟩:=own_slice hown
    have hVB:(Value.slice A9 (rebKids RL t d ((List.finRange (nK t)).take k)).length c8).ownBlock≠some wr.heap.size:=fun e=>by have:=own_lt hown _ e;omega
    clear hown hkids
    obtain ⟨cells,qz,hown,hkids⟩:=HK5
    obtain ⟨L,hL⟩:∃ L,(rebKids RL t d ((List.finRange (nK t)).take k)).length=L:=⟨_,rfl⟩
    have hL2:L≤3:=by rw [← hL,rebKids_len,List.length_take];omega
    have HLE:=Ak hL
    rw [hL] at hVB hown hkids hO5
    clear hL
    have HKID:=Ak hkids
    have HOWN:=Ak hown
    have HB5:=Ak hb5
    clear hkids hown hb5
    have hlen1:t.kids.length≤9223372036854775807:=by omega
    have hmr:=moreZ_in t k
    have hxl:=HXL.out
    have hNN:=HNN.out
    have hDK:=HDK.out
    have hD1:=HD1.out
    refine rg7_region W5 S Ob wr.heap.size (w.heap.size) (w.heap.size+1) (Ob+1) L c8 k A9 cells t.kind dd ff by_ cp cv L9 n9 c9 p t (qq k) x (rebP RL x (d+moreZ t k)) d (moreZ t k) hO5 hX5 hC5 hT5 HOWN.out (by omega) (by omega) (by omega) hVB (by omega) (by omega) (by omega) rfl (by omega) (fun j hj=>by have:=HSS.out j hj;omega) (fun w5 h5 h6=>IH.out x (by omega) (qq k) (d+moreZ t k) w5 (by omega) (by omega) (by have:=h5.size;omega) (HRP.out _ _ HRW.out (fun j hj=>(h6 j (by omega) (fun e=>by have:=own_base HOWN.out j e;omega) (by omega)).trans ((HB5.out.block j (by omega)).trans (HKEEP.out j hj)))) (HXIN.out.same fun j hj _=>by
     have hj:=HSS.out _ hj
     exact (h6 j (by omega) (fun e=>by have:=own_base HOWN.out j e;omega) (by omega)).trans (HB5.out.block j (by omega)))) ?_
    intro w6 u47 u48 u49 O12 v14 O14 hch h12 hO12 h14 hO14 hap
    have hfin:=reb_round (g0:=g1) HLE.out HKID.out HOWN.out hch h12 hO12 (fun h=>hap _ h h14.2) (by omega) (by omega) (by omega) HSS.out
    have hsn:=rebKids_snoc RL t d ((List.finRange (nK t)).take k) ⟨k,hkn⟩
    rw [HXE.out,← HTK.out] at hsn
    rw [← hsn] at hfin
    have HF6:=Ak hfin
    have HO6:=Ak h14.1
    have HG6:=Ak (show Chg (fun k=>k=Ob) W4 w6 from ⟨hch.os.trans (HB5.out.os.trans HGR.out.os),hch.tape.trans (HB5.out.tape.trans HGR.out.tape),hch.output.trans (HB5.out.output.trans HGR.out.output),Nat.le_trans HGR.out.size (Nat.le_trans HB5.out.size hch.size),fun j hj hn=>(hch.block j (by omega) (fun e=>e.elim (fun e=>by have:=own_base HOWN.out j e;omega) hn)).trans ((HB5.out.block j (by omega)).trans (HGR.out.block j hj hn))⟩)
    clear hch h12 hO12 h14 hO14 hap hfin hsn hX5 hO5 hC5 hT5 hVB
    go_wp2
    go_roundw
    case rel=>exact ⟨k+1,u49,by go_num,by omega,HO6,HF6,HG6⟩
    case measure=>(simp [intOf];try omega)
   ·obtain rfl:k=m:=by omega
    have hlt':decide ((k:Int)<k)=false:=by simp
    have HFU:=Ak (show (List.finRange (nK t)).take k=List.finRange (nK t) from List.take_of_length_le (by rw [List.length_finRange,HNK.out];exact Nat.le_refl _))
    have hKT:=HKR.out
    rw [HFU.out] at hKT
    obtain ⟨K9,e9,rfl,hterm⟩:=hKT.term
    have HTM:=Ak (hterm t.kind 0 noName ⟨by decide,by decide,by simp⟩)
    have hz0:=HOZ.out
    have hzr:=HGR.out.size
    have HR6:=Ak ((HGR.out.block _ (by omega) (by omega)).trans HR4.out)
    obtain ⟨m9,hm9⟩:∃ m,(rebKids RL t d (List.finRange (nK t))).length=m:=⟨_,rfl⟩
    have HM9:=Ak hm9
    have HOR2:=Ak (show wr.heap[Ob]?=some (outK t.kind (.slice K9 m9 e9)) by rw [← hm9];exact HOR.out)
    obtain ⟨r0,r1,r2,r3,r4,r5,r6,r7,f0,f1,f2,f3,f4,f5,f6,f7⟩:=row8c HR6.out
    have HK6E:=Ak (show rebP RL t d=.mk t.kind 0 noName (.mk 0 0 []) [] (rebKids RL t d (List.finRange (nK t))) from HE.out)
    clear hKT hterm hm9 HE
    go_wp2_with (refine wpList_load_row rfl 28 _ rfl Ob rfl 28 _ (0,0) _ HOR2.out Try.underlying28 rfl (by kernel_rfl) ?_)
    refine bodyPost_ret (results_c rfl _ _ (w.heap.size+1+1) 28 #[.int .i64 t.kind,.int .i64 0,.string ⟨#[]⟩,.int .i64 0,.int .i64 0,.slice none 0 0,.slice none 0 0,.slice K9 m9 e9] (0,0) _ rfl (set8 HR6.out) Try.underlying28 rfl (by kernel_rfl)) rfl ?_
    have hch:=chg_set8 wr (w.heap.size+1+1) (.int .i64 t.kind) (.int .i64 0) (.string ⟨#[]⟩) (.int .i64 0) (.int .i64 0) (.slice none 0 0) (.slice none 0 0) (.slice K9 m9 e9)
    rw [HK6E.out]
    have hzb:=HB4.out.size
    refine ⟨⟨none,0,none,0,K9,e9⟩,by unfold tmV;rw [← HM9.out];rfl,(HTM.out.same fun j hj hz=>hch.block j hz (by rcases hj with hj | hj;(have:=HSS.out j hj;omega);omega)).mono fun j hj _=>hj.imp id (fun h=>by omega),?_⟩
    exact Chg.trans_below (S:=fun j=>j=Ob∨j=w.heap.size+1+1) HB4.out (chg_trans (HGR.out.mono fun j h=>.inl h) (hch.mono fun j h=>.inr h)) (fun j h=>by omega) hzb
end
end Go.Proofs.Ytdboloabpjmgaaa

namespace Go.Proofs.Ytdboloabpjmgaaa
open Go.RowKit Go.Proofs.YtdboloabpjmgaaaW.PrintWords Go.RegionInvYtdboloabpjmgaaa Go.RegionEYtdboloabpjmgaaa

def Tm.renum (x:Tm) (n:Int):Tm:=.mk x.kind n x.name x.lv x.ls x.kids
def lifL (f b:Int) (x:Tm) (d:Int):Tm:=if x.kind=1∧0≤x.num∧f≤x.num - d then x.renum (if 0<b∧9223372036854775807 - b<x.num then 9223372036854775807 else max d (x.num+b)) else x
set_option maxRecDepth 100000 in
set_option maxHeartbeats 8000000 in
theorem leafLG_calls (f by_ d:Int) (cp:Pl) (cv:Tm) (L9:Option Addr) (n9 c9:Nat) (S:Nat→Prop) (x:Tm) (q:Pl) (w:World) (hby:-1048576≤by_∧by_≤1048576) (hd:0≤d∧d≤1000000) (hS:∀ k,S k→k<w.heap.size) (hq:TmS w S q x) :
  Calls Try.prog 98 #[chGV 0 f by_ cp cv L9 n9 c9,tmV q x,.int .i64 d] w (TmGot w S (lifL f by_ x d)):=by
 have hxr:=hq.fit.1
 obtain ⟨xk,xn,xnm,xlv,xls,xks⟩:=x
 replace hxr:-9223372036854775808≤xn∧xn≤9223372036854775807:=hxr
 obtain ⟨W,hW⟩:∃ W,W=rwgW w 0 f by_ cp cv L9 n9 c9 q (.mk xk xn xnm xlv xls xks):=⟨_,rfl⟩
 obtain ⟨hb,hc3,hx4,hr6,hz⟩:=rwg_box w 0 f by_ cp cv L9 n9 c9 q (.mk xk xn xnm xlv xls xks)
 rw [← hW] at hb hc3 hx4 hr6 hz
 have HB:=Ak hb
 have HX:=Ak hx4
 have HR:=Ak hr6
 have HSS:=Ak hS
 have HT:=Ak (TmS.stay hq hS hb)
 have c0:W.cell? ⟨w.heap.size,0,none⟩=some (.int .i64 0):=by rw [cell_of_row _ _ _ _ _ _ hc3];rfl
 have c1:W.cell? ⟨w.heap.size,1,none⟩=some (.int .i64 f):=by rw [cell_of_row _ _ _ _ _ _ hc3];rfl
 have c2:W.cell? ⟨w.heap.size,2,none⟩=some (.int .i64 by_):=by rw [cell_of_row _ _ _ _ _ _ hc3];rfl
 obtain ⟨x0,x1,-,-,-,-,-,-⟩:=row8 hx4
 replace x0:W.cell? ⟨w.heap.size+1,0,none⟩=some (.int .i64 xk):=x0
 replace x1:W.cell? ⟨w.heap.size+1,1,none⟩=some (.int .i64 xn):=x1
 have fx:=blk_frozen hx4 1
 clear hb hc3 hr6 hz hS hq
 unfold chGV tmV
 unfold rwgW tmO at hW
 go_enter Try.func98,Try.ntmps98
 go_upto_region 1 with (fail)
 rw [← hW]
 clear hW hx4
 by_cases hk:xk=1
 ·have b1:(xk == 1)=true:=by simp [hk]
  by_cases hn0:0≤xn
  ·have e0:wrap64 (xn - d)=xn - d:=by unfold wrap64;omega
   by_cases hfr:f≤xn - d
   ·by_cases hp:0<by_
    ·have e1:wrap64 (9223372036854775807 - by_)=9223372036854775807 - by_:=by unfold wrap64;omega
     by_cases hov:9223372036854775807 - by_<xn
     ·have HE:=Ak (show lifL f by_ (.mk xk xn xnm xlv xls xks) d=.mk xk 9223372036854775807 xnm xlv xls xks by unfold lifL;rw [if_pos ⟨hk,hn0,hfr⟩,if_pos ⟨hp,hov⟩];rfl)
      clear hk
      go_upto_region 20 with (fail)
      obtain ⟨W5,hW5⟩:∃ W5,W5=W.setCell ⟨w.heap.size+1,1,none⟩ (.int .i64 (9223372036854775807)):=⟨_,rfl⟩
      have hc5:=chg_set W (w.heap.size+1) 1 (.int .i64 (9223372036854775807))
      have hx5:=blk_put HX.out 1 (.int .i64 (9223372036854775807)) rfl
      rw [← hW5] at hc5 hx5
      have HX5:=Ak (show W5.heap[w.heap.size+1]?=some (tmO q (.mk xk (9223372036854775807) xnm xlv xls xks)) from hx5)
      have HR5:=Ak ((hc5.block _ (blk_lt HR.out) (by omega)).trans HR.out)
      have HB5:=Ak (Chg.trans_below HB.out hc5 (fun _ e=>by omega) HB.out.size)
      have HT5:=Ak (TmS.same (w':=W5) HT.out fun k hk hz=>hc5.block k hz (by have:=HSS.out k hk;omega))
      rw [← hW5]
      clear hW5 hc5 hx5 c0 c1 c2 x0 x1 fx
      obtain ⟨r0,r1,r2,r3,r4,r5,r6,r7,f0,f1,f2,f3,f4,f5,f6,f7⟩:=row8c HR5.out
      go_wp2_with (refine wpList_load_row rfl 28 _ rfl (w.heap.size+1) rfl 28 _ (0,0) _ HX5.out Try.underlying28 rfl (by kernel_rfl) ?_)
      refine bodyPost_ret (results_c rfl _ _ (w.heap.size+1+1) 28 #[.int .i64 xk,.int .i64 (9223372036854775807),.string xnm,.int .i64 xlv.kind,.int .i64 xlv.num,.slice q.A xlv.kids.length q.c,.slice q.B xls.length q.d,.slice q.K xks.length q.e] (0,0) _ rfl (set8 HR5.out) Try.underlying28 rfl (by kernel_rfl)) rfl ?_
      rw [HE.out]
      exact tm_retS (y:=.mk xk (9223372036854775807) xnm xlv xls xks) (q:=q) (S:=S) (g0:=w.heap.size) (g:=w.heap.size+1+1) (m:=w.heap.size+1+1+1) ((HT5.out.renum (by omega)).mono fun k h _=>.inl h) (chg_set8 W5 (w.heap.size+1+1) (.int .i64 xk) (.int .i64 (9223372036854775807)) (.string xnm) (.int .i64 xlv.kind) (.int .i64 xlv.num) (.slice q.A xlv.kids.length q.c) (.slice q.B xls.length q.d) (.slice q.K xks.length q.e)) (Nat.le_refl _) (by omega) (by omega) HB5.out HSS.out
     ·have e2:wrap64 (xn+by_)=xn+by_:=by unfold wrap64;omega
      by_cases hmx:d<xn+by_
      ·have HE:=Ak (show lifL f by_ (.mk xk xn xnm xlv xls xks) d=.mk xk (xn+by_) xnm xlv xls xks by unfold lifL;rw [if_pos ⟨hk,hn0,hfr⟩,if_neg (fun h=>hov h.2)];show Tm.mk xk (max d (xn+by_)) xnm xlv xls xks=_;rw [show max d (xn+by_)=xn+by_ by omega])
       clear hk
       go_upto_region 20 with (fail)
       obtain ⟨W5,hW5⟩:∃ W5,W5=W.setCell ⟨w.heap.size+1,1,none⟩ (.int .i64 (xn+by_)):=⟨_,rfl⟩
       have hc5:=chg_set W (w.heap.size+1) 1 (.int .i64 (xn+by_))
       have hx5:=blk_put HX.out 1 (.int .i64 (xn+by_)) rfl
       rw [← hW5] at hc5 hx5
       have HX5:=Ak (show W5.heap[w.heap.size+1]?=some (tmO q (.mk xk (xn+by_) xnm xlv xls xks)) from hx5)
       have HR5:=Ak ((hc5.block _ (blk_lt HR.out) (by omega)).trans HR.out)
       have HB5:=Ak (Chg.trans_below HB.out hc5 (fun _ e=>by omega) HB.out.size)
       have HT5:=Ak (TmS.same (w':=W5) HT.out fun k hk hz=>hc5.block k hz (by have:=HSS.out k hk;omega))
       rw [← hW5]
       clear hW5 hc5 hx5 c0 c1 c2 x0 x1 fx
       obtain ⟨r0,r1,r2,r3,r4,r5,r6,r7,f0,f1,f2,f3,f4,f5,f6,f7⟩:=row8c HR5.out
       go_wp2_with (refine wpList_load_row rfl 28 _ rfl (w.heap.size+1) rfl 28 _ (0,0) _ HX5.out Try.underlying28 rfl (by kernel_rfl) ?_)
       refine bodyPost_ret (results_c rfl _ _ (w.heap.size+1+1) 28 #[.int .i64 xk,.int .i64 (xn+by_),.string xnm,.int .i64 xlv.kind,.int .i64 xlv.num,.slice q.A xlv.kids.length q.c,.slice q.B xls.length q.d,.slice q.K xks.length q.e] (0,0) _ rfl (set8 HR5.out) Try.underlying28 rfl (by kernel_rfl)) rfl ?_
       rw [HE.out]
       exact tm_retS (y:=.mk xk (xn+by_) xnm xlv xls xks) (q:=q) (S:=S) (g0:=w.heap.size) (g:=w.heap.size+1+1) (m:=w.heap.size+1+1+1) ((HT5.out.renum (by omega)).mono fun k h _=>.inl h) (chg_set8 W5 (w.heap.size+1+1) (.int .i64 xk) (.int .i64 (xn+by_)) (.string xnm) (.int .i64 xlv.kind) (.int .i64 xlv.num) (.slice q.A xlv.kids.length q.c) (.slice q.B xls.length q.d) (.slice q.K xks.length q.e)) (Nat.le_refl _) (by omega) (by omega) HB5.out HSS.out
      ·have HE:=Ak (show lifL f by_ (.mk xk xn xnm xlv xls xks) d=.mk xk d xnm xlv xls xks by unfold lifL;rw [if_pos ⟨hk,hn0,hfr⟩,if_neg (fun h=>hov h.2)];show Tm.mk xk (max d (xn+by_)) xnm xlv xls xks=_;rw [show max d (xn+by_)=d by omega])
       clear hk
       go_upto_region 20 with (fail)
       obtain ⟨W5,hW5⟩:∃ W5,W5=W.setCell ⟨w.heap.size+1,1,none⟩ (.int .i64 (d)):=⟨_,rfl⟩
       have hc5:=chg_set W (w.heap.size+1) 1 (.int .i64 (d))
       have hx5:=blk_put HX.out 1 (.int .i64 (d)) rfl
       rw [← hW5] at hc5 hx5
       have HX5:=Ak (show W5.heap[w.heap.size+1]?=some (tmO q (.mk xk (d) xnm xlv xls xks)) from hx5)
       have HR5:=Ak ((hc5.block _ (blk_lt HR.out) (by omega)).trans HR.out)
       have HB5:=Ak (Chg.trans_below HB.out hc5 (fun _ e=>by omega) HB.out.size)
       have HT5:=Ak (TmS.same (w':=W5) HT.out fun k hk hz=>hc5.block k hz (by have:=HSS.out k hk;omega))
       rw [← hW5]
       clear hW5 hc5 hx5 c0 c1 c2 x0 x1 fx
       obtain ⟨r0,r1,r2,r3,r4,r5,r6,r7,f0,f1,f2,f3,f4,f5,f6,f7⟩:=row8c HR5.out
       go_wp2_with (refine wpList_load_row rfl 28 _ rfl (w.heap.size+1) rfl 28 _ (0,0) _ HX5.out Try.underlying28 rfl (by kernel_rfl) ?_)
       refine bodyPost_ret (results_c rfl _ _ (w.heap.size+1+1) 28 #[.int .i64 xk,.int .i64 (d),.string xnm,.int .i64 xlv.kind,.int .i64 xlv.num,.slice q.A xlv.kids.length q.c,.slice q.B xls.length q.d,.slice q.K xks.length q.e] (0,0) _ rfl (set8 HR5.out) Try.underlying28 rfl (by kernel_rfl)) rfl ?_
       rw [HE.out]
       exact tm_retS (y:=.mk xk (d) xnm xlv xls xks) (q:=q) (S:=S) (g0:=w.heap.size) (g:=w.heap.size+1+1) (m:=w.heap.size+1+1+1) ((HT5.out.renum (by omega)).mono fun k h _=>.inl h) (chg_set8 W5 (w.heap.size+1+1) (.int .i64 xk) (.int .i64 (d)) (.string xnm) (.int .i64 xlv.kind) (.int .i64 xlv.num) (.slice q.A xlv.kids.length q.c) (.slice q.B xls.length q.d) (.slice q.K xks.length q.e)) (Nat.le_refl _) (by omega) (by omega) HB5.out HSS.out
    ·have e2:wrap64 (xn+by_)=xn+by_:=by unfold wrap64;omega
     by_cases hmx:d<xn+by_
     ·have HE:=Ak (show lifL f by_ (.mk xk xn xnm xlv xls xks) d=.mk xk (xn+by_) xnm xlv xls xks by unfold lifL;rw [if_pos ⟨hk,hn0,hfr⟩,if_neg (fun h=>hp h.1)];show Tm.mk xk (max d (xn+by_)) xnm xlv xls xks=_;rw [show max d (xn+by_)=xn+by_ by omega])
      clear hk
      go_upto_region 20 with (fail)
      obtain ⟨W5,hW5⟩:∃ W5,W5=W.setCell ⟨w.heap.size+1,1,none⟩ (.int .i64 (xn+by_)):=⟨_,rfl⟩
      have hc5:=chg_set W (w.heap.size+1) 1 (.int .i64 (xn+by_))
      have hx5:=blk_put HX.out 1 (.int .i64 (xn+by_)) rfl
      rw [← hW5] at hc5 hx5
      have HX5:=Ak (show W5.heap[w.heap.size+1]?=some (tmO q (.mk xk (xn+by_) xnm xlv xls xks)) from hx5)
      have HR5:=Ak ((hc5.block _ (blk_lt HR.out) (by omega)).trans HR.out)
      have HB5:=Ak (Chg.trans_below HB.out hc5 (fun _ e=>by omega) HB.out.size)
      have HT5:=Ak (TmS.same (w':=W5) HT.out fun k hk hz=>hc5.block k hz (by have:=HSS.out k hk;omega))
      rw [← hW5]
      clear hW5 hc5 hx5 c0 c1 c2 x0 x1 fx
      obtain ⟨r0,r1,r2,r3,r4,r5,r6,r7,f0,f1,f2,f3,f4,f5,f6,f7⟩:=row8c HR5.out
      go_wp2_with (refine wpList_load_row rfl 28 _ rfl (w.heap.size+1) rfl 28 _ (0,0) _ HX5.out Try.underlying28 rfl (by kernel_rfl) ?_)
      refine bodyPost_ret (results_c rfl _ _ (w.heap.size+1+1) 28 #[.int .i64 xk,.int .i64 (xn+by_),.string xnm,.int .i64 xlv.kind,.int .i64 xlv.num,.slice q.A xlv.kids.length q.c,.slice q.B xls.length q.d,.slice q.K xks.length q.e] (0,0) _ rfl (set8 HR5.out) Try.underlying28 rfl (by kernel_rfl)) rfl ?_
      rw [HE.out]
      exact tm_retS (y:=.mk xk (xn+by_) xnm xlv xls xks) (q:=q) (S:=S) (g0:=w.heap.size) (g:=w.heap.size+1+1) (m:=w.heap.size+1+1+1) ((HT5.out.renum (by omega)).mono fun k h _=>.inl h) (chg_set8 W5 (w.heap.size+1+1) (.int .i64 xk) (.int .i64 (xn+by_)) (.string xnm) (.int .i64 xlv.kind) (.int .i64 xlv.num) (.slice q.A xlv.kids.length q.c) (.slice q.B xls.length q.d) (.slice q.K xks.length q.e)) (Nat.le_refl _) (by omega) (by omega) HB5.out HSS.out
     ·have HE:=Ak (show lifL f by_ (.mk xk xn xnm xlv xls xks) d=.mk xk d xnm xlv xls xks by unfold lifL;rw [if_pos ⟨hk,hn0,hfr⟩,if_neg (fun h=>hp h.1)];show Tm.mk xk (max d (xn+by_)) xnm xlv xls xks=_;rw [show max d (xn+by_)=d by omega])
      clear hk
      go_upto_region 20 with (fail)
      obtain ⟨W5,hW5⟩:∃ W5,W5=W.setCell ⟨w.heap.size+1,1,none⟩ (.int .i64 (d)):=⟨_,rfl⟩
      have hc5:=chg_set W (w.heap.size+1) 1 (.int .i64 (d))
      have hx5:=blk_put HX.out 1 (.int .i64 (d)) rfl
      rw [← hW5] at hc5 hx5
      have HX5:=Ak (show W5.heap[w.heap.size+1]?=some (tmO q (.mk xk (d) xnm xlv xls xks)) from hx5)
      have HR5:=Ak ((hc5.block _ (blk_lt HR.out) (by omega)).trans HR.out)
      have HB5:=Ak (Chg.trans_below HB.out hc5 (fun _ e=>by omega) HB.out.size)
      have HT5:=Ak (TmS.same (w':=W5) HT.out fun k hk hz=>hc5.block k hz (by have:=HSS.out k hk;omega))
      rw [← hW5]
      clear hW5 hc5 hx5 c0 c1 c2 x0 x1 fx
      obtain ⟨r0,r1,r2,r3,r4,r5,r6,r7,f0,f1,f2,f3,f4,f5,f6,f7⟩:=row8c HR5.out
      go_wp2_with (refine wpList_load_row rfl 28 _ rfl (w.heap.size+1) rfl 28 _ (0,0) _ HX5.out Try.underlying28 rfl (by kernel_rfl) ?_)
      refine bodyPost_ret (results_c rfl _ _ (w.heap.size+1+1) 28 #[.int .i64 xk,.int .i64 (d),.string xnm,.int .i64 xlv.kind,.int .i64 xlv.num,.slice q.A xlv.kids.length q.c,.slice q.B xls.length q.d,.slice q.K xks.length q.e] (0,0) _ rfl (set8 HR5.out) Try.underlying28 rfl (by kernel_rfl)) rfl ?_
      rw [HE.out]
      exact tm_retS (y:=.mk xk (d) xnm xlv xls xks) (q:=q) (S:=S) (g0:=w.heap.size) (g:=w.heap.size+1+1) (m:=w.heap.size+1+1+1) ((HT5.out.renum (by omega)).mono fun k h _=>.inl h) (chg_set8 W5 (w.heap.size+1+1) (.int .i64 xk) (.int .i64 (d)) (.string xnm) (.int .i64 xlv.kind) (.int .i64 xlv.num) (.slice q.A xlv.kids.length q.c) (.slice q.B xls.length q.d) (.slice q.K xks.length q.e)) (Nat.le_refl _) (by omega) (by omega) HB5.out HSS.out
   ·have HE:=Ak (show lifL f by_ (.mk xk xn xnm xlv xls xks) d=.mk xk xn xnm xlv xls xks by unfold lifL;rw [if_neg (fun h=>hfr h.2.2)])
    clear hk
    go_upto_region 20 with (fail)
    clear c0 c1 c2 x0 x1 fx
    obtain ⟨r0,r1,r2,r3,r4,r5,r6,r7,f0,f1,f2,f3,f4,f5,f6,f7⟩:=row8c HR.out
    go_wp2_with (refine wpList_load_row rfl 28 _ rfl (w.heap.size+1) rfl 28 _ (0,0) _ HX.out Try.underlying28 rfl (by kernel_rfl) ?_)
    refine bodyPost_ret (results_c rfl _ _ (w.heap.size+1+1) 28 #[.int .i64 xk,.int .i64 (xn),.string xnm,.int .i64 xlv.kind,.int .i64 xlv.num,.slice q.A xlv.kids.length q.c,.slice q.B xls.length q.d,.slice q.K xks.length q.e] (0,0) _ rfl (set8 HR.out) Try.underlying28 rfl (by kernel_rfl)) rfl ?_
    rw [HE.out]
    exact tm_retS (y:=.mk xk (xn) xnm xlv xls xks) (q:=q) (S:=S) (g0:=w.heap.size) (g:=w.heap.size+1+1) (m:=w.heap.size+1+1+1) ((HT.out).mono fun k h _=>.inl h) (chg_set8 W (w.heap.size+1+1) (.int .i64 xk) (.int .i64 (xn)) (.string xnm) (.int .i64 xlv.kind) (.int .i64 xlv.num) (.slice q.A xlv.kids.length q.c) (.slice q.B xls.length q.d) (.slice q.K xks.length q.e)) (Nat.le_refl _) (by omega) (by omega) HB.out HSS.out
  ·have HE:=Ak (show lifL f by_ (.mk xk xn xnm xlv xls xks) d=.mk xk xn xnm xlv xls xks by unfold lifL;rw [if_neg (fun h=>hn0 h.2.1)])
   clear hk
   go_upto_region 20 with (fail)
   clear c0 c1 c2 x0 x1 fx
   obtain ⟨r0,r1,r2,r3,r4,r5,r6,r7,f0,f1,f2,f3,f4,f5,f6,f7⟩:=row8c HR.out
   go_wp2_with (refine wpList_load_row rfl 28 _ rfl (w.heap.size+1) rfl 28 _ (0,0) _ HX.out Try.underlying28 rfl (by kernel_rfl) ?_)
   refine bodyPost_ret (results_c rfl _ _ (w.heap.size+1+1) 28 #[.int .i64 xk,.int .i64 (xn),.string xnm,.int .i64 xlv.kind,.int .i64 xlv.num,.slice q.A xlv.kids.length q.c,.slice q.B xls.length q.d,.slice q.K xks.length q.e] (0,0) _ rfl (set8 HR.out) Try.underlying28 rfl (by kernel_rfl)) rfl ?_
   rw [HE.out]
   exact tm_retS (y:=.mk xk (xn) xnm xlv xls xks) (q:=q) (S:=S) (g0:=w.heap.size) (g:=w.heap.size+1+1) (m:=w.heap.size+1+1+1) ((HT.out).mono fun k h _=>.inl h) (chg_set8 W (w.heap.size+1+1) (.int .i64 xk) (.int .i64 (xn)) (.string xnm) (.int .i64 xlv.kind) (.int .i64 xlv.num) (.slice q.A xlv.kids.length q.c) (.slice q.B xls.length q.d) (.slice q.K xks.length q.e)) (Nat.le_refl _) (by omega) (by omega) HB.out HSS.out
 ·have b1:(xk == 1)=false:=by simp [hk]
  have HE:=Ak (show lifL f by_ (.mk xk xn xnm xlv xls xks) d=.mk xk xn xnm xlv xls xks by unfold lifL;rw [if_neg (fun h=>hk h.1)])
  clear hk
  go_upto_region 20 with (fail)
  clear c0 c1 c2 x0 x1 fx
  obtain ⟨r0,r1,r2,r3,r4,r5,r6,r7,f0,f1,f2,f3,f4,f5,f6,f7⟩:=row8c HR.out
  go_wp2_with (refine wpList_load_row rfl 28 _ rfl (w.heap.size+1) rfl 28 _ (0,0) _ HX.out Try.underlying28 rfl (by kernel_rfl) ?_)
  refine bodyPost_ret (results_c rfl _ _ (w.heap.size+1+1) 28 #[.int .i64 xk,.int .i64 (xn),.string xnm,.int .i64 xlv.kind,.int .i64 xlv.num,.slice q.A xlv.kids.length q.c,.slice q.B xls.length q.d,.slice q.K xks.length q.e] (0,0) _ rfl (set8 HR.out) Try.underlying28 rfl (by kernel_rfl)) rfl ?_
  rw [HE.out]
  exact tm_retS (y:=.mk xk (xn) xnm xlv xls xks) (q:=q) (S:=S) (g0:=w.heap.size) (g:=w.heap.size+1+1) (m:=w.heap.size+1+1+1) ((HT.out).mono fun k h _=>.inl h) (chg_set8 W (w.heap.size+1+1) (.int .i64 xk) (.int .i64 (xn)) (.string xnm) (.int .i64 xlv.kind) (.int .i64 xlv.num) (.slice q.A xlv.kids.length q.c) (.slice q.B xls.length q.d) (.slice q.K xks.length q.e)) (Nat.le_refl _) (by omega) (by omega) HB.out HSS.out
end Go.Proofs.Ytdboloabpjmgaaa

namespace Go.Proofs.Ytdboloabpjmgaaa
open Go.RowKit Go.Proofs.YtdboloabpjmgaaaW.PrintWords Go.RegionInvYtdboloabpjmgaaa Go.RegionEYtdboloabpjmgaaa

def rlG (f b:Int) (t:Tm) (d:Int):Tm:=lifL f b (bareG t) d
theorem rwgL_calls (S:Nat→Prop) (g0:Nat) (hS:∀ k,S k→k<g0) (f by_:Int) (hby:-1048576≤by_∧by_≤1048576) (t:Tm) (p:Pl) (w:World) (hdp:depthT t≤1000000) (hg0:g0≤w.heap.size) (hin:TmS w S p t) :
  Calls Try.prog 66 #[chGV 0 f by_ plz zeroT none 0 0,tmV p t,.int .i64 0] w (TmGot w S (rebP (rlG f by_) t 0)):=
 rwg_calls 0 f by_ plz zeroT none 0 0 (rlG f by_) g0 S (fun _=>True) hS (fun _ _ _ _=>trivial)
  (fun t d S' q w _ h0 h1 _ _ hS' _ ht=>leafLG_calls f by_ d plz zeroT none 0 0 S' (bareG t) q w hby ⟨h0,h1⟩ hS' ht) _ t (Nat.lt_succ_self _) p 0 w (Int.le_refl _) (by omega) hg0 trivial hin
set_option maxRecDepth 100000 in
set_option maxHeartbeats 4000000 in
theorem rliftG_calls (S:Nat→Prop) (g0:Nat) (hS:∀ k,S k→k<g0) (f by_:Int) (hby:-1048576≤by_∧by_≤1048576) (t:Tm) (p:Pl) (w:World) (hdp:depthT t≤1000000) (hg0:g0≤w.heap.size) (hin:TmS w S p t) :
  Calls Try.prog 69 #[tmV p t,.int .i64 f,.int .i64 by_] w (TmGot w S (rebP (rlG f by_) t 0)):=by
 obtain ⟨W,hW⟩:∃ W,W=(w.alloc (tmO p t)).alloc (outK 0 (.slice none 0 0)):=⟨_,rfl⟩
 have hb:Below w.heap.size w W:=by rw [hW];exact below_alloc (below_alloc (Below.refl _ _) _) _
 have HX:=Ak (show W.heap[w.heap.size]?=some (tmO p t) by rw [hW];exact box0 w _ _)
 have HX1:=Ak (show W.heap[w.heap.size+1]?=some (outK 0 (.slice none 0 0)) by rw [hW];exact box1 w _ _)
 have HZ:=Ak (show w.heap.size+1<W.heap.size by rw [hW];simp)
 have HB:=Ak hb
 have HIN:=Ak (TmS.stay hin hS (hb.mono hg0))
 have HSS:=Ak hS
 clear hin hb
 have HCA:=Ak (show ∀ w,g0≤w.heap.size→TmS w S p t→Calls Try.prog 66 #[.agg #[.int .i64 0,.int .i64 f,.int .i64 by_,.int .i64 0,.int .i64 0,.string ⟨#[]⟩,.int .i64 0,.int .i64 0,.slice none 0 0,.slice none 0 0,.slice none 0 0,.slice none 0 0],tmV p t,.int .i64 0] w (TmGot w S (rebP (rlG f by_) t 0)) from fun w hg h=>rwgL_calls S g0 hS f by_ hby t p w hdp hg h)
 obtain ⟨y,hy⟩:∃ y,y=rebP (rlG f by_) t 0:=⟨_,rfl⟩
 have HY:=Ak hy
 rw [← hy]
 clear hy hS hby hdp
 unfold tmV
 unfold tmO at hW
 go_enter Try.func69,Try.ntmps69
 go_upto_region 1 with (fail)
 rw [← hW]
 clear hW
 go_wp2_with (first
  | (refine wpList_load_row rfl 28 _ rfl (w.heap.size) rfl 28 _ (0,0) _ HX.out Try.underlying28 rfl (by kernel_rfl) ?_)
  | (go_at_call 66;go_must (refine (HCA.out W (Nat.le_trans hg0 HB.out.size) HIN.out).mono ?_;rw [← HY.out];rintro e w3 ⟨q9,rfl,ht9,hb3⟩;have HT9:=Ak ht9;have HX13:=Ak ((hb3.block _ (blk_lt HX1.out)).trans HX1.out);have HB3:=Ak (below_then HB.out HB.out.size hb3);obtain ⟨r0,r1,r2,r3,r4,r5,r6,r7,f0,f1,f2,f3,f4,f5,f6,f7⟩:=row8c HX13.out;clear ht9 hb3;unfold tmV)))
 refine bodyPost_ret (results_c rfl _ _ (w.heap.size+1) 28 #[.int .i64 y.kind,.int .i64 y.num,.string y.name,.int .i64 y.lv.kind,.int .i64 y.lv.num,.slice q9.A y.lv.kids.length q9.c,.slice q9.B y.ls.length q9.d,.slice q9.K y.kids.length q9.e] (0,0) _ rfl (set8 HX13.out) Try.underlying28 rfl (by kernel_rfl)) rfl ?_
 exact tm_retS (g:=w.heap.size+1) HT9.out (chg_set8 w3 (w.heap.size+1) (.int .i64 y.kind) (.int .i64 y.num) (.string y.name) (.int .i64 y.lv.kind) (.int .i64 y.lv.num) (.slice q9.A y.lv.kids.length q9.c) (.slice q9.B y.ls.length q9.d) (.slice q9.K y.kids.length q9.e)) hg0 (by omega) HZ.out HB3.out HSS.out
def putL (v:Tm) (x:Tm) (d:Int):Tm:=if x.kind=1∧d≤x.num then if x.num=d then rebP (rlG 0 d) v 0 else x.renum (x.num - 1) else x
set_option maxRecDepth 100000 in
set_option maxHeartbeats 8000000 in
theorem leafPG_calls (d:Int) (pv:Pl) (v:Tm) (S:Nat→Prop) (x:Tm) (q:Pl) (w:World) (hdp:depthT v≤1000000) (hd:0≤d∧d≤1000000) (hS:∀ k,S k→k<w.heap.size) (hq:TmS w S q x) (hinv:TmS w S pv v) :
  Calls Try.prog 98 #[chGV 1 0 0 pv v none 0 0,tmV q x,.int .i64 d] w (TmGot w S (putL v x d)):=by
 have hxr:=hq.fit.1
 obtain ⟨xk,xn,xnm,xlv,xls,xks⟩:=x
 replace hxr:-9223372036854775808≤xn∧xn≤9223372036854775807:=hxr
 obtain ⟨W,hW⟩:∃ W,W=rwgW w 1 0 0 pv v none 0 0 q (.mk xk xn xnm xlv xls xks):=⟨_,rfl⟩
 obtain ⟨hb,hc3,hx4,hr6,hz⟩:=rwg_box w 1 0 0 pv v none 0 0 q (.mk xk xn xnm xlv xls xks)
 rw [← hW] at hb hc3 hx4 hr6 hz
 have HB:=Ak hb
 have HX:=Ak hx4
 have HR:=Ak hr6
 have HZ:=Ak hz
 have HSS:=Ak hS
 have HT:=Ak (TmS.stay hq hS hb)
 have HIN:=Ak (TmS.stay hinv hS hb)
 have HCA:=Ak (show ∀ w',w.heap.size≤w'.heap.size→TmS w' S pv v→Calls Try.prog 69 #[tmV pv v,.int .i64 0,.int .i64 d] w' (TmGot w' S (rebP (rlG 0 d) v 0)) from fun w' hg h=>rliftG_calls S w.heap.size hS 0 d (by omega) v pv w' hdp hg h)
 have c0:W.cell? ⟨w.heap.size,0,none⟩=some (.int .i64 1):=by rw [cell_of_row _ _ _ _ _ _ hc3];rfl
 have c3:W.cell? ⟨w.heap.size,3,none⟩=some (.int .i64 v.kind):=by rw [cell_of_row _ _ _ _ _ _ hc3];rfl
 have c4:W.cell? ⟨w.heap.size,4,none⟩=some (.int .i64 v.num):=by rw [cell_of_row _ _ _ _ _ _ hc3];rfl
 have c5:W.cell? ⟨w.heap.size,5,none⟩=some (.string v.name):=by rw [cell_of_row _ _ _ _ _ _ hc3];rfl
 have c6:W.cell? ⟨w.heap.size,6,none⟩=some (.int .i64 v.lv.kind):=by rw [cell_of_row _ _ _ _ _ _ hc3];rfl
 have c7:W.cell? ⟨w.heap.size,7,none⟩=some (.int .i64 v.lv.num):=by rw [cell_of_row _ _ _ _ _ _ hc3];rfl
 have c8:W.cell? ⟨w.heap.size,8,none⟩=some (.slice pv.A v.lv.kids.length pv.c):=by rw [cell_of_row _ _ _ _ _ _ hc3];rfl
 have c9:W.cell? ⟨w.heap.size,9,none⟩=some (.slice pv.B v.ls.length pv.d):=by rw [cell_of_row _ _ _ _ _ _ hc3];rfl
 have c10:W.cell? ⟨w.heap.size,10,none⟩=some (.slice pv.K v.kids.length pv.e):=by rw [cell_of_row _ _ _ _ _ _ hc3];rfl
 obtain ⟨x0,x1,-,-,-,-,-,-⟩:=row8 hx4
 replace x0:W.cell? ⟨w.heap.size+1,0,none⟩=some (.int .i64 xk):=x0
 replace x1:W.cell? ⟨w.heap.size+1,1,none⟩=some (.int .i64 xn):=x1
 have fx:=blk_frozen hx4 1
 clear hb hc3 hr6 hz hS hq hinv hdp
 unfold chGV tmV
 unfold rwgW tmO at hW
 go_enter Try.func98,Try.ntmps98
 go_upto_region 1 with (fail)
 rw [← hW]
 clear hW hx4
 by_cases hk:xk=1
 ·have b1:(xk != 1)=false:=by simp [hk]
  by_cases hn0:xn<d
  ·have HE:=Ak (show putL v (.mk xk xn xnm xlv xls xks) d=.mk xk xn xnm xlv xls xks by unfold putL;rw [if_neg (fun h=>by have:d≤xn:=h.2;omega)])
   clear hk
   go_upto_region 16 with (fail)
   clear c0 c3 c4 c5 c6 c7 c8 c9 c10 x0 x1 fx
   obtain ⟨r0,r1,r2,r3,r4,r5,r6,r7,f0,f1,f2,f3,f4,f5,f6,f7⟩:=row8c HR.out
   go_wp2_with (refine wpList_load_row rfl 28 _ rfl (w.heap.size+1) rfl 28 _ (0,0) _ HX.out Try.underlying28 rfl (by kernel_rfl) ?_)
   refine bodyPost_ret (results_c rfl _ _ (w.heap.size+1+1) 28 #[.int .i64 xk,.int .i64 (xn),.string xnm,.int .i64 xlv.kind,.int .i64 xlv.num,.slice q.A xlv.kids.length q.c,.slice q.B xls.length q.d,.slice q.K xks.length q.e] (0,0) _ rfl (set8 HR.out) Try.underlying28 rfl (by kernel_rfl)) rfl ?_
   rw [HE.out]
   exact tm_retS (y:=.mk xk (xn) xnm xlv xls xks) (q:=q) (S:=S) (g0:=w.heap.size) (g:=w.heap.size+1+1) (m:=w.heap.size+1+1+1) ((HT.out).mono fun k h _=>.inl h) (chg_set8 W (w.heap.size+1+1) (.int .i64 xk) (.int .i64 (xn)) (.string xnm) (.int .i64 xlv.kind) (.int .i64 xlv.num) (.slice q.A xlv.kids.length q.c) (.slice q.B xls.length q.d) (.slice q.K xks.length q.e)) (Nat.le_refl _) (by omega) (by omega) HB.out HSS.out
  ·by_cases hnd:xn=d
   ·have b2:(xn == d)=true:=by simp [hnd]
    have HE:=Ak (show putL v (.mk xk xn xnm xlv xls xks) d=rebP (rlG 0 d) v 0 by unfold putL;rw [if_pos ⟨hk,by show d≤xn;omega⟩];exact if_pos hnd)
    obtain ⟨y,hy⟩:∃ y,y=rebP (rlG 0 d) v 0:=⟨_,rfl⟩
    rw [← hy] at HE HCA
    clear hk hnd hy
    go_wp2_with (go_at_call 69;go_must (refine (HCA.out W HB.out.size HIN.out).mono ?_;rintro e w3 ⟨q9,rfl,ht9,hb3⟩;have HT9:=Ak ht9;have HX13:=Ak ((hb3.block _ (blk_lt HR.out)).trans HR.out);have HB3:=Ak (below_then HB.out HB.out.size hb3);obtain ⟨r0,r1,r2,r3,r4,r5,r6,r7,f0,f1,f2,f3,f4,f5,f6,f7⟩:=row8c HX13.out;clear ht9 hb3;unfold tmV))
    refine bodyPost_ret (results_c rfl _ _ (w.heap.size+1+1) 28 #[.int .i64 y.kind,.int .i64 y.num,.string y.name,.int .i64 y.lv.kind,.int .i64 y.lv.num,.slice q9.A y.lv.kids.length q9.c,.slice q9.B y.ls.length q9.d,.slice q9.K y.kids.length q9.e] (0,0) _ rfl (set8 HX13.out) Try.underlying28 rfl (by kernel_rfl)) rfl ?_
    rw [HE.out]
    exact tm_retS (S:=S) (g0:=w.heap.size) (g:=w.heap.size+1+1) HT9.out (chg_set8 w3 (w.heap.size+1+1) (.int .i64 y.kind) (.int .i64 y.num) (.string y.name) (.int .i64 y.lv.kind) (.int .i64 y.lv.num) (.slice q9.A y.lv.kids.length q9.c) (.slice q9.B y.ls.length q9.d) (.slice q9.K y.kids.length q9.e)) (Nat.le_refl _) (by omega) (by have:=HZ.out;omega) HB3.out HSS.out
   ·have b2:(xn == d)=false:=by simp [hnd]
    have e1:wrap64 (xn - 1)=xn - 1:=by unfold wrap64;omega
    have HE:=Ak (show putL v (.mk xk xn xnm xlv xls xks) d=.mk xk (xn - 1) xnm xlv xls xks by unfold putL;rw [if_pos ⟨hk,by show d≤xn;omega⟩];exact if_neg hnd)
    clear hk hnd
    go_upto_region 20 with (fail)
    obtain ⟨W5,hW5⟩:∃ W5,W5=W.setCell ⟨w.heap.size+1,1,none⟩ (.int .i64 (xn - 1)):=⟨_,rfl⟩
    have hc5:=chg_set W (w.heap.size+1) 1 (.int .i64 (xn - 1))
    have hx5:=blk_put HX.out 1 (.int .i64 (xn - 1)) rfl
    rw [← hW5] at hc5 hx5
    have HX5:=Ak (show W5.heap[w.heap.size+1]?=some (tmO q (.mk xk (xn - 1) xnm xlv xls xks)) from hx5)
    have HR5:=Ak ((hc5.block _ (blk_lt HR.out) (by omega)).trans HR.out)
    have HB5:=Ak (Chg.trans_below HB.out hc5 (fun _ e=>by omega) HB.out.size)
    have HT5:=Ak (TmS.same (w':=W5) HT.out fun k hk hz=>hc5.block k hz (by have:=HSS.out k hk;omega))
    rw [← hW5]
    clear hW5 hc5 hx5 c0 c3 c4 c5 c6 c7 c8 c9 c10 x0 x1 fx
    obtain ⟨r0,r1,r2,r3,r4,r5,r6,r7,f0,f1,f2,f3,f4,f5,f6,f7⟩:=row8c HR5.out
    go_wp2_with (refine wpList_load_row rfl 28 _ rfl (w.heap.size+1) rfl 28 _ (0,0) _ HX5.out Try.underlying28 rfl (by kernel_rfl) ?_)
    refine bodyPost_ret (results_c rfl _ _ (w.heap.size+1+1) 28 #[.int .i64 xk,.int .i64 (xn - 1),.string xnm,.int .i64 xlv.kind,.int .i64 xlv.num,.slice q.A xlv.kids.length q.c,.slice q.B xls.length q.d,.slice q.K xks.length q.e] (0,0) _ rfl (set8 HR5.out) Try.underlying28 rfl (by kernel_rfl)) rfl ?_
    rw [HE.out]
    exact tm_retS (y:=.mk xk (xn - 1) xnm xlv xls xks) (q:=q) (S:=S) (g0:=w.heap.size) (g:=w.heap.size+1+1) (m:=w.heap.size+1+1+1) ((HT5.out.renum (by omega)).mono fun k h _=>.inl h) (chg_set8 W5 (w.heap.size+1+1) (.int .i64 xk) (.int .i64 (xn - 1)) (.string xnm) (.int .i64 xlv.kind) (.int .i64 xlv.num) (.slice q.A xlv.kids.length q.c) (.slice q.B xls.length q.d) (.slice q.K xks.length q.e)) (Nat.le_refl _) (by omega) (by omega) HB5.out HSS.out
 ·have b1:(xk != 1)=true:=by simp [hk]
  have HE:=Ak (show putL v (.mk xk xn xnm xlv xls xks) d=.mk xk xn xnm xlv xls xks by unfold putL;rw [if_neg (fun h=>hk h.1)])
  clear hk
  go_upto_region 16 with (fail)
  clear c0 c3 c4 c5 c6 c7 c8 c9 c10 x0 x1 fx
  obtain ⟨r0,r1,r2,r3,r4,r5,r6,r7,f0,f1,f2,f3,f4,f5,f6,f7⟩:=row8c HR.out
  go_wp2_with (refine wpList_load_row rfl 28 _ rfl (w.heap.size+1) rfl 28 _ (0,0) _ HX.out Try.underlying28 rfl (by kernel_rfl) ?_)
  refine bodyPost_ret (results_c rfl _ _ (w.heap.size+1+1) 28 #[.int .i64 xk,.int .i64 (xn),.string xnm,.int .i64 xlv.kind,.int .i64 xlv.num,.slice q.A xlv.kids.length q.c,.slice q.B xls.length q.d,.slice q.K xks.length q.e] (0,0) _ rfl (set8 HR.out) Try.underlying28 rfl (by kernel_rfl)) rfl ?_
  rw [HE.out]
  exact tm_retS (y:=.mk xk (xn) xnm xlv xls xks) (q:=q) (S:=S) (g0:=w.heap.size) (g:=w.heap.size+1+1) (m:=w.heap.size+1+1+1) ((HT.out).mono fun k h _=>.inl h) (chg_set8 W (w.heap.size+1+1) (.int .i64 xk) (.int .i64 (xn)) (.string xnm) (.int .i64 xlv.kind) (.int .i64 xlv.num) (.slice q.A xlv.kids.length q.c) (.slice q.B xls.length q.d) (.slice q.K xks.length q.e)) (Nat.le_refl _) (by omega) (by omega) HB.out HSS.out
end Go.Proofs.Ytdboloabpjmgaaa

namespace Go.Proofs.Ytdboloabpjmgaaa
open Go.RowKit Go.Proofs.YtdboloabpjmgaaaW.PrintWords Go.RegionInvYtdboloabpjmgaaa

def StrAt (w:World) (g:Nat) (s:ByteArray):Prop:=w.heap[g]?=some (.cells #[.string s] 9 (0,0))
theorem StrAt.cell {w:World} {g:Nat} {s:ByteArray} (h:StrAt w g s):w.cell? ⟨g,0,none⟩=some (.string s):=by rw [cell_of_row _ _ _ _ _ _ h];rfl
end Go.Proofs.Ytdboloabpjmgaaa

namespace Go.Proofs.Ytdboloabpjmgaaa
open Go.RowKit Go.Proofs.YtdboloabpjmgaaaW.PrintWords Go.RegionInvYtdboloabpjmgaaa Go.RegionEYtdboloabpjmgaaa

def EnAt (w:World) (A:Option Addr) (xs:List (Tm × Int)):Prop:=∀ (i:Nat) (x:Tm × Int),xs[i]?=some x→∃ g o q,A=some ⟨g,o,none⟩∧g<w.heap.size∧TmIn w w.heap.size q x.1∧∀ (j:Nat) (v:Value),(enC q x)[j]?=some v→w.cell? ⟨g,o+i * 9+j,none⟩=some v
theorem EnAt.later {w w':World} {A:Option Addr} {xs:List (Tm × Int)} (h:EnAt w A xs) (hb:Below w.heap.size w w'):EnAt w' A xs:=fun i x hx=>by
 obtain ⟨g,o,q,hA,hg,hi,hc⟩:=h i x hx
 exact ⟨g,o,q,hA,Nat.lt_of_lt_of_le hg hb.size,(TmS.later hi hb).all,fun j v hv=>(cell_same (hb.block g hg)).trans (hc j v hv)⟩
theorem KidsE.at {w:World} {S:Nat→Prop} {lo:Nat} {V:Value} {xs:List (Tm × Int)} (h:KidsE w S lo V xs):∃ A c,V=.slice A xs.length c∧xs.length≤c∧c≤9223372036854775807∧EnAt w A xs:=by
 obtain ⟨cells,q,ho,hk⟩:=h
 obtain ⟨A,c,rfl⟩:=own_slice ho
 refine ⟨A,c,rfl,own_cap ho,own_max ho,fun i x hx=>?_⟩
 have hi:i<xs.length:=by
  rcases Nat.lt_or_ge i xs.length with h | h
  ·exact h
  ·rw [List.getElem?_eq_none h] at hx;cases hx
 obtain ⟨g,cap,hv,hb,hlt⟩:=ho.form (by omega)
 have hv':=hv
 injection hv with hA
 refine ⟨g,0,q i,hA,hlt,(hk i x hx).2.all,fun j v hjv=>?_⟩
 have:=ho.cells (g:=g) (by rw [hv'];rfl) _ _ ((hk i x hx).1 j v hjv)
 rwa [add_flat,← Nat.add_assoc] at this
theorem ends_d (N:Nat):∀ (t:Tm),SizeOf.sizeOf t<N→∀ (d:Int),∀ y∈endsP t d,d≤y.2∧y.2+1≤d+depthT t:=by
 induction N with
 | zero=>intro t h;omega
 | succ N ih =>
  intro t hN d y hy
  have hp:=depth_pos t
  by_cases h0:nK t=0
  ·rw [ends_leaf h0] at hy
   obtain rfl:y=(t,d):=by simpa using hy
   exact ⟨Int.le_refl _,by show d+1≤_;omega⟩
  ·rw [ends_node h0] at hy
   obtain ⟨l,hl,hy⟩:=List.mem_flatten.1 hy
   obtain ⟨i,-,rfl⟩:=List.mem_map.1 hl
   have:=ih (kidF t i) (by have:=kidF_lt t i;omega) _ y hy
   have:=depth_kid t i
   have:=moreZ_in t i
   omega
theorem ends0_calls (t:Tm) (p:Pl) (w:World) (hin:TmIn w w.heap.size p t) (hok:okT t):Calls Try.prog 80 #[tmV p t,.int .i64 0,.slice none 0 0] w fun e w' =>
  ∃ A n c,e=.returned (.slice A n c)∧n=(endsP t 0).length∧n≤c∧c≤9223372036854775807∧EnAt w' A (endsP t 0)∧Below w.heap.size w w':=by
 have h1:=hok.1
 have h2:=hok.2
 refine (ends_calls _ t (Nat.lt_succ_self _) p w.heap.size w.heap.size 0 (.slice none 0 0) [] w hin (Nat.le_refl _) (Nat.le_refl _) (by decide) (by omega) (by show 0+sizeT t≤30000;omega) (KidsE.nil _ _ _)).mono ?_
 rintro e w' ⟨V,rfl,hE,hG⟩
 rw [List.nil_append] at hE
 obtain ⟨A,c,rfl,hc,hm,hat⟩:=hE.at
 exact ⟨A,_,c,rfl,rfl,hc,hm,hat,hG.1.below (fun k h=>by cases h) (Nat.le_refl _)⟩
def ocE (n:Int) (xs:List (Tm × Int)):Nat:=(xs.map fun x=>if hitB x.1 (n+x.2)=true then 1 else 0).sum
theorem ocE_cons (n:Int) (x:Tm × Int) (r:List (Tm × Int)):ocE n (x :: r)=(if hitB x.1 (n+x.2)=true then 1 else 0)+ocE n r:=by unfold ocE;rw [List.map_cons,List.sum_cons]
theorem ocE_app (n:Int) (xs ys:List (Tm × Int)):ocE n (xs ++ ys)=ocE n xs+ocE n ys:=by unfold ocE;rw [List.map_append,List.sum_append]
theorem ocE_ends (n:Int) (N:Nat):∀ (t:Tm),SizeOf.sizeOf t<N→∀ (d:Int),ocE n (endsP t d)=occT t (n+d):=by
 induction N with
 | zero=>intro t h;omega
 | succ N ih =>
  intro t hN d
  by_cases h0:nK t=0
  ·rw [ends_leaf h0,occ_leaf h0];rfl
  ·rw [ends_node h0,occ_node (decide_eq_false h0)]
   have key:∀ (xs:List (Fin (nK t))),ocE n ((xs.map fun i=>endsP (kidF t i) (d+moreZ t i)).flatten)=occK t (n+d) xs:=by
    intro xs
    induction xs with
    | nil=>rfl
    | cons x r ihr =>
     have e2:occK t (n+d) (x :: r)=occT (kidF t x) (n+d+moreZ t x)+occK t (n+d) r:=by unfold occK;rw [List.map_cons,List.sum_cons]
     rw [List.map_cons,List.flatten_cons,ocE_app,ihr,ih (kidF t x) (by have:=kidF_lt t x;omega) (d+moreZ t x),e2,Int.add_assoc]
   exact key _
theorem drop_at {α:Type} {xs:List α} {i:Nat} {x:α} (h:xs[i]?=some x):xs.drop i=x :: xs.drop (i+1):=by
 obtain ⟨hl,rfl⟩:=List.getElem?_eq_some_iff.1 h
 exact List.drop_eq_getElem_cons hl
abbrev enO (q:Pl) (x:Tm × Int):Obj:=.cells #[.int .i64 x.1.kind,.int .i64 x.1.num,.string x.1.name,.int .i64 x.1.lv.kind,.int .i64 x.1.lv.num,.slice q.A x.1.lv.kids.length q.c,.slice q.B x.1.ls.length q.d,.slice q.K x.1.kids.length q.e,.int .i64 x.2] 81 (0,0)
theorem row9 {w:World} {g:Nat} {q:Pl} {x:Tm × Int} (h:w.heap[g]?=some (enO q x)) :
  w.cell? ⟨g,0,none⟩=some (.int .i64 x.1.kind)∧w.cell? ⟨g,1,none⟩=some (.int .i64 x.1.num)∧w.cell? ⟨g,2,none⟩=some (.string x.1.name)∧w.cell? ⟨g,8,none⟩=some (.int .i64 x.2):=by
 refine ⟨?_,?_,?_,?_⟩ <;> (rw [cell_of_row _ _ _ _ _ _ h];rfl)
set_option maxRecDepth 100000 in
set_option maxHeartbeats 4000000 in
theorem refOccurs_calls (t:Tm) (p:Pl) (nn:Int) (hnn:0≤nn∧nn≤1000000) (w:World) (hin:TmIn w w.heap.size p t) (hk:okT t):Calls Try.prog 52 #[tmV p t,.int .i64 nn] w fun e w'=>e=.returned (.int .i64 (occT t nn))∧Below w.heap.size w w':=by
 have HIN:=Ak hin
 obtain ⟨W,hW⟩:∃ W,W=w.alloc (tmO p t):=⟨_,rfl⟩
 have hb:Below w.heap.size w W:=by rw [hW];exact below_alloc (Below.refl _ _) _
 have HX:=Ak (show W.heap[w.heap.size]?=some (tmO p t) by rw [hW];exact blk_new _ _)
 have HB:=Ak hb
 clear hin hb
 unfold tmV
 unfold tmO at hW
 go_enter Try.func52,Try.ntmps52
 go_upto_region 1 with (fail)
 rw [← hW]
 clear hW
 ·have HK:=Ak hk
  have HV:=Ak (show ocE nn (endsP t 0)=occT t nn by rw [ocE_ends nn _ t (Nat.lt_succ_self _) 0,Int.add_zero])
  have HDP:=Ak (show 0+(depthT t:Int)≤2000 by have:=hk.2;omega)
  clear hk
  go_wp2_with (first
   | (refine wpList_load_row rfl 28 _ rfl (w.heap.size) rfl 28 _ (0,0) _ HX.out Try.underlying28 rfl (by kernel_rfl) ?_)
   | (go_at_call 80;go_must (refine (ends0_calls t p W (TmS.all (HIN.out.stay HB.out)) HK.out).mono ?_;rintro e w2 ⟨A,n,c,rfl,hnl,hnc,hcm,hen,hb⟩;have HNL:=Ak hnl;have HEN:=Ak hen;have HB2:=Ak (below_then HB.out HB.out.size hb);clear hnl hen hb)))
  go_loopw [5,11] (fun u i wr=>∃ (k:Nat) (m:Nat),i=.int .i64 k∧u=.int .i64 m∧k≤n∧(m≤k∧Aside0 (m+ocE nn ((endsP t 0).drop k)=ocE nn (endsP t 0)))∧Aside0 (Below w2.heap.size w2 wr)) (fun _ i _=>n - (intOf i).toNat)
  case atStart=>exact ⟨0,0,rfl,rfl,Nat.zero_le _,⟨Nat.le_refl _,⟨by rw [List.drop_zero];exact Nat.zero_add _⟩⟩,⟨Below.refl _ _⟩⟩
  case round =>
   obtain ⟨k,m,rfl,rfl,hk,hm,HBL⟩:=hrel
   by_cases hlt:k<n
   ·obtain ⟨x,hx⟩:∃ x,(endsP t 0)[k]?=some x:=⟨_,List.getElem?_eq_getElem (by have:=HNL.out;omega)⟩
    obtain ⟨g,o,q,hA,hg,hxin,hcells⟩:=(HEN.out.later HBL.out) k x hx
    have HDR:=Ak (drop_at hx)
    have hxd:=ends_d _ t (Nat.lt_succ_self _) 0 x (List.mem_of_getElem? hx)
    have hxf:=hxin.fit.1
    have hdp:=HDP.out
    have hx0:0≤x.2:=hxd.1
    have hx1:x.2≤2000:=by omega
    have e0:=hcells 0 _ rfl
    have e1:=hcells 1 _ rfl
    have e2:=hcells 2 _ rfl
    have e3:=hcells 3 _ rfl
    have e4:=hcells 4 _ rfl
    have e5:=hcells 5 _ rfl
    have e6:=hcells 6 _ rfl
    have e7:=hcells 7 _ rfl
    have e8:=hcells 8 _ rfl
    rw [Nat.add_zero] at e0
    subst hA
    clear hcells hxin hx hxd hdp hg
    go_upto_region 5 with (fail)
    obtain ⟨W5,hW5⟩:∃ W5,W5=wr.alloc (enO q x):=⟨_,rfl⟩
    have hb5:Below wr.heap.size wr W5:=by rw [hW5];exact below_alloc (Below.refl _ _) _
    have HX5:=Ak (show W5.heap[wr.heap.size]?=some (enO q x) by rw [hW5];exact blk_new _ _)
    have HB5:=Ak (below_then HBL.out HBL.out.size hb5)
    unfold enO at hW5
    rw [← hW5]
    clear hW5 hb5 e0 e1 e2 e3 e4 e5 e6 e7 e8
    obtain ⟨r0,r1,r2,r8⟩:=row9 HX5.out
    have HMX:=Ak (show m+(if hitB x.1 (nn+x.2)=true then 1 else 0)+ocE nn ((endsP t 0).drop (k+1))=ocE nn (endsP t 0) by rw [← hm.2.out,HDR.out,ocE_cons];omega)
    obtain ⟨xn,hxn⟩:∃ y,x.1.num=y:=⟨_,rfl⟩
    obtain ⟨xd,hxd⟩:∃ y,x.2=y:=⟨_,rfl⟩
    rw [hxn] at r1 hxf
    rw [hxd] at r8 hx0 hx1
    have hm1:=hm.1
    have hw:wrap64 (nn+xd)=nn+xd:=by unfold wrap64;omega
    by_cases k1:x.1.kind=1
    ·have b1:(x.1.kind == 1)=true:=by simp [k1]
     by_cases k2:xn=nn+xd
     ·have b2:(xn == nn+xd)=true:=by simp [k2]
      have HME:=Ak (show hitB x.1 (nn+x.2)=true from decide_eq_true ⟨k1,by rw [hxn,hxd];exact k2⟩)
      clear k1 k2 hm hxn hxd
      go_wp2
      go_roundw
      case rel=>exact ⟨k+1,m+1,by go_num,by go_num,by omega,⟨by omega,⟨by have h:=HMX.out;rw [HME.out] at h;exact h⟩⟩,HB5⟩
      case measure=>(simp [intOf];try omega)
     ·have b2:(xn == nn+xd)=false:=by simp [k2]
      have HME:=Ak (show hitB x.1 (nn+x.2)=false from decide_eq_false fun h=>k2 (by rw [← hxn,← hxd];exact h.2))
      clear k1 k2 hm hxn hxd
      go_wp2
      go_roundw
      case rel=>exact ⟨k+1,m,by go_num,rfl,by omega,⟨by omega,⟨by have h:=HMX.out;rw [HME.out] at h;exact h⟩⟩,HB5⟩
      case measure=>(simp [intOf];try omega)
    ·have b1:(x.1.kind == 1)=false:=by simp [k1]
     have HME:=Ak (show hitB x.1 (nn+x.2)=false from decide_eq_false fun h=>k1 h.1)
     clear k1 hm hxn hxd
     go_wp2
     go_roundw
     case rel=>exact ⟨k+1,m,by go_num,rfl,by omega,⟨by omega,⟨by have h:=HMX.out;rw [HME.out] at h;exact h⟩⟩,HB5⟩
     case measure=>(simp [intOf];try omega)
   ·obtain rfl:k=n:=by omega
    have hlt':decide ((k:Int)<k)=false:=by simp
    have HFIN:=Ak (below_then HB2.out HB2.out.size HBL.out)
    have HZ:=Ak (show occT t nn=m by
     have h:=hm.2.out
     rw [List.drop_of_length_le (by have:=HNL.out;omega),HV.out] at h
     rw [← h]
     rfl)
    go_wp2
    go_ret
    rw [HZ.out]
    exact ⟨rfl,HFIN.out⟩
end Go.Proofs.Ytdboloabpjmgaaa

namespace Go.Proofs.Ytdboloabpjmgaaa
open Go.RowKit Go.Proofs.YtdboloabpjmgaaaW.PrintWords Go.RegionInvYtdboloabpjmgaaa Go.RegionEYtdboloabpjmgaaa

theorem zeroT_flat (w:World) (S:Nat→Prop):TmS w S plz zeroT:=TmS.flat (LvS.leaf _ _ _ _) (LvS.leaf _ _ _ _) _ _ _ ⟨by decide,by decide,by simp⟩
set_option maxRecDepth 100000 in
set_option maxHeartbeats 4000000 in
theorem fits_calls (S:Nat→Prop) (g0:Nat) (hS:∀ k,S k→k<g0) {t:Tm} (hok:okT t) (p:Pl) (w:World) (hg0:g0≤w.heap.size) (hin:TmS w S p t) :
  Calls Try.prog 65 #[tmV p t] w (TmGot w S t):=by
 obtain ⟨W,hW⟩:∃ W,W=(w.alloc (tmO p t)).alloc (outK 0 (.slice none 0 0)):=⟨_,rfl⟩
 have hb:Below w.heap.size w W:=by rw [hW];exact below_alloc (below_alloc (Below.refl _ _) _) _
 have HX:=Ak (show W.heap[w.heap.size]?=some (tmO p t) by rw [hW];exact box0 w _ _)
 have HX1:=Ak (show W.heap[w.heap.size+1]?=some (outK 0 (.slice none 0 0)) by rw [hW];exact box1 w _ _)
 have HZ:=Ak (show w.heap.size+1<W.heap.size by rw [hW];simp)
 have HB:=Ak hb
 have HIN:=Ak (TmS.stay hin hS (hb.mono hg0))
 clear hin hb
 have HSS:=Ak hS
 have HG:=Ak (show (!decide (okT t))=false by simp [hok])
 clear hS hok
 unfold tmV
 unfold tmO at hW
 go_enter Try.func65,Try.ntmps65
 go_upto_region 1 with (fail)
 rw [← hW]
 clear hW
 go_upto_region 3 with (first
  | (refine wpList_load_row rfl 28 _ rfl (w.heap.size) rfl 28 _ (0,0) _ HX.out Try.underlying28 rfl (by kernel_rfl) ?_)
  | (go_at_call 26;go_must (refine (tooGreat_calls t p W (TmS.mono HIN.out fun k h _=>Nat.lt_of_lt_of_le (HSS.out k h) (Nat.le_trans hg0 HB.out.size))).mono ?_;rintro e w1 ⟨rfl,hb⟩;rw [HG.out];have HX01:=Ak ((hb.block _ (blk_lt HX.out)).trans HX.out);have HX11:=Ak ((hb.block _ (blk_lt HX1.out)).trans HX1.out);have HB1:=Ak (below_then HB.out HB.out.size hb);have HZ1:=Ak (show w.heap.size+1+1≤w1.heap.size by have:=hb.size;have:=HZ.out;omega);have HIN1:=Ak (TmS.stay HIN.out HSS.out (hb.mono (Nat.le_trans hg0 HB.out.size)));clear hb)))
 clear HX HX1 HB HIN
 obtain ⟨r0,r1,r2,r3,r4,r5,r6,r7,f0,f1,f2,f3,f4,f5,f6,f7⟩:=row8c HX11.out
 go_wp2_with (refine wpList_load_row rfl 28 _ rfl (w.heap.size) rfl 28 _ (0,0) _ HX01.out Try.underlying28 rfl (by kernel_rfl) ?_)
 refine bodyPost_ret (results_c rfl _ _ (w.heap.size+1) 28 #[.int .i64 t.kind,.int .i64 t.num,.string t.name,.int .i64 t.lv.kind,.int .i64 t.lv.num,.slice p.A t.lv.kids.length p.c,.slice p.B t.ls.length p.d,.slice p.K t.kids.length p.e] (0,0) _ rfl (set8 HX11.out) Try.underlying28 rfl (by kernel_rfl)) rfl ?_
 exact tm_retS (S:=S) (g:=w.heap.size+1) (m:=w.heap.size+1+1) (HIN1.out.mono fun k h _=>.inl h) (chg_set8 w1 (w.heap.size+1) (.int .i64 t.kind) (.int .i64 t.num) (.string t.name) (.int .i64 t.lv.kind) (.int .i64 t.lv.num) (.slice p.A t.lv.kids.length p.c) (.slice p.B t.ls.length p.d) (.slice p.K t.kids.length p.e)) hg0 (by omega) (by omega) HB1.out HSS.out
end Go.Proofs.Ytdboloabpjmgaaa

namespace Go.Proofs.Ytdboloabpjmgaaa
open Go.RowKit Go.Proofs.YtdboloabpjmgaaaW.PrintWords Go.RegionInvYtdboloabpjmgaaa Go.RegionEYtdboloabpjmgaaa
set_option linter.unusedVariables false

def ig1_ops:List Oper:=[
 { dst:=some 7,op:=Go.Op.load 28 (Go.Operand.tmp 2),type:=28,pos:= "ref.go:262",after:=#[],guard:=none },
 { dst:=some 8,op:=Go.Op.call { callee:=Go.Callee.value (Go.Operand.func 21),args:=#[Go.Operand.tmp 7],argTypes:=#[28] },type:=3,pos:= "ref.go:262",after:=#[{ on:=0,ground:=Go.Ground.data }],guard:=none },
 { dst:=some 9,op:=Go.Op.load 28 (Go.Operand.tmp 3),type:=28,pos:= "ref.go:262",after:=#[],guard:=none },
 { dst:=some 10,op:=Go.Op.call { callee:=Go.Callee.value (Go.Operand.func 21),args:=#[Go.Operand.tmp 9],argTypes:=#[28] },type:=3,pos:= "ref.go:262",after:=#[{ on:=2,ground:=Go.Ground.data },{ on:=1,ground:=Go.Ground.chain }],guard:=none },
 { dst:=some 5,op:=Go.Op.assign (Go.Operand.tmp 8),type:=3,pos:= "ref.go:262",after:=#[{ on:=1,ground:=Go.Ground.data },{ on:=3,ground:=Go.Ground.chain },{ on:=0,ground:=Go.Ground.phase },{ on:=1,ground:=Go.Ground.phase },{ on:=2,ground:=Go.Ground.textOnly Go.Departure.lateStores },{ on:=3,ground:=Go.Ground.textOnly Go.Departure.lateStoresUnsure }],guard:=none },
 { dst:=some 6,op:=Go.Op.assign (Go.Operand.tmp 10),type:=3,pos:= "ref.go:262",after:=#[{ on:=3,ground:=Go.Ground.data },{ on:=4,ground:=Go.Ground.chain },{ on:=0,ground:=Go.Ground.phase },{ on:=1,ground:=Go.Ground.phase },{ on:=2,ground:=Go.Ground.phase },{ on:=3,ground:=Go.Ground.phase },{ on:=4,ground:=Go.Ground.phase }],guard:=none }]
def ig1_F (w0:World) (B:Nat) (ga:Nat) (pa:Pl) (ta:Tm) (gb:Nat) (pb:Pl) (tb:Tm) (sa sb:Int):Nat→(Nat→Value)→Value→World→(Nat→Prop)→Prop:=fun rix=>match rix with
 | 0=>fun _ v _ _=>v=tmV pa ta
 | 1=>fun _ v _ _=>v=.int .i64 sa
 | 2=>fun _ v _ _=>v=tmV pb tb
 | 3=>fun _ v _ _=>v=.int .i64 sb
 | 4=>fun _ v _ _=>v=.int .i64 sa
 | 5=>fun _ v _ _=>v=.int .i64 sb
 | _=>fun _ _ _ _=>True
def ig1_C:Nat→List Nat:=fun rix=>match rix with
 | _=>[]
theorem ig1_nw2:nwB ig1_ops.toArray 2=true:=by kernel_rfl
theorem ig1_nw3:nwB ig1_ops.toArray 3=true:=by kernel_rfl
set_option maxRecDepth 100000 in
set_option maxHeartbeats 8000000 in
theorem ig1_obs (w0:World) (B:Nat) (ga:Nat) (pa:Pl) (ta:Tm) (gb:Nat) (pb:Pl) (tb:Tm) (sa sb:Int) (hB:B≤w0.heap.size) (hx2:w0.heap[ga]?=some (tmO pa ta)) (hin2:TmIn w0 B pa ta) (hx3:w0.heap[gb]?=some (tmO pb tb)) (hin3:TmIn w0 B pb tb) (hsa:(measP ta).1=sa) (hsb:(measP tb).1=sb) (Q:Exit→Act→World→Prop) (a0:Act) (hi2:a0.tmps.getD 2 undef=.pointer (some ⟨ga,0,none⟩)) (hi3:a0.tmps.getD 3 undef=.pointer (some ⟨gb,0,none⟩)) :
  ObsE Try.prog ig1_ops.toArray Q (est2 0 0 (fun _=>False) (fun _=>False)) ig1_C (ig1_F w0 B ga pa ta gb pb tb sa sb) a0 w0 ig1_ops.toArray.toList 0:=by
 have nw2:=ig1_nw2
 have nw3:=ig1_nw3
 refine ⟨?_,?_,?_,?_,?_,?_,trivial⟩
 ·refine ⟨⟨fun τ=>stableE_det _,leans_not⟩,?_⟩
  intro a w O hk
  have e2:a.eval (.tmp 2)=.pointer (some ⟨ga,0,none⟩):=(hk.init 2 (initialB_of_nw nw2)).trans hi2
  have x2:=hk.world.still hx2 (fun ⟨_,h⟩=>h.elim And.right And.right)
  have x3:=hk.world.still hx3 (fun ⟨_,h⟩=>h.elim And.right And.right)
  have hfx:∀ k,k<B→w.heap[k]?=w0.heap[k]?:=fun k hk'=>hk.fix k ((fun k hk'=>est2_fix (Nat.lt_of_lt_of_le hk' hB) (fun e=>e.elim) (fun e=>e.elim)) k hk')
  have hsz:=hk.world.size
  have y2:=hin2.same (w':=w) (fun k hk' _=>hfx k hk')
  have y3:=hin3.same (w':=w) (fun k hk' _=>hfx k hk')
  exact obE_loadRow rfl e2 x2 Try.underlying28 rfl (by kernel_rfl) (wanted_none rfl) rfl
 ·refine ⟨⟨fun τ=>stableE_det _,leans_not⟩,?_⟩
  intro a w O hk
  have e7:a.eval (.tmp 7)=tmV pa ta:=hk.fact 0 _ 7 rfl rfl rfl rfl
  have x2:=hk.world.still hx2 (fun ⟨_,h⟩=>h.elim And.right And.right)
  have x3:=hk.world.still hx3 (fun ⟨_,h⟩=>h.elim And.right And.right)
  have hfx:∀ k,k<B→w.heap[k]?=w0.heap[k]?:=fun k hk'=>hk.fix k ((fun k hk'=>est2_fix (Nat.lt_of_lt_of_le hk' hB) (fun e=>e.elim) (fun e=>e.elim)) k hk')
  have hsz:=hk.world.size
  have y2:=hin2.same (w':=w) (fun k hk' _=>hfx k hk')
  have y3:=hin3.same (w':=w) (fun k hk' _=>hfx k hk')
  exact obE_callV #[tmV pa ta] rfl rfl rfl rfl (by simp only [List.map_cons,List.map_nil];rw [e7];try rfl) (wanted_none rfl) ((refSize_calls ta pa w (TmIn.mono y2 (Nat.le_trans hB hsz))).mono fun e w' h=>⟨by rw [h.1,hsa],h.2⟩)
 ·refine ⟨⟨fun τ=>stableE_det _,leans_not⟩,?_⟩
  intro a w O hk
  have e3:a.eval (.tmp 3)=.pointer (some ⟨gb,0,none⟩):=(hk.init 3 (initialB_of_nw nw3)).trans hi3
  have x2:=hk.world.still hx2 (fun ⟨_,h⟩=>h.elim And.right And.right)
  have x3:=hk.world.still hx3 (fun ⟨_,h⟩=>h.elim And.right And.right)
  have hfx:∀ k,k<B→w.heap[k]?=w0.heap[k]?:=fun k hk'=>hk.fix k ((fun k hk'=>est2_fix (Nat.lt_of_lt_of_le hk' hB) (fun e=>e.elim) (fun e=>e.elim)) k hk')
  have hsz:=hk.world.size
  have y2:=hin2.same (w':=w) (fun k hk' _=>hfx k hk')
  have y3:=hin3.same (w':=w) (fun k hk' _=>hfx k hk')
  exact obE_loadRow rfl e3 x3 Try.underlying28 rfl (by kernel_rfl) (wanted_none rfl) rfl
 ·refine ⟨⟨fun τ=>stableE_det _,leans_not⟩,?_⟩
  intro a w O hk
  have e9:a.eval (.tmp 9)=tmV pb tb:=hk.fact 2 _ 9 rfl rfl rfl rfl
  have x2:=hk.world.still hx2 (fun ⟨_,h⟩=>h.elim And.right And.right)
  have x3:=hk.world.still hx3 (fun ⟨_,h⟩=>h.elim And.right And.right)
  have hfx:∀ k,k<B→w.heap[k]?=w0.heap[k]?:=fun k hk'=>hk.fix k ((fun k hk'=>est2_fix (Nat.lt_of_lt_of_le hk' hB) (fun e=>e.elim) (fun e=>e.elim)) k hk')
  have hsz:=hk.world.size
  have y2:=hin2.same (w':=w) (fun k hk' _=>hfx k hk')
  have y3:=hin3.same (w':=w) (fun k hk' _=>hfx k hk')
  exact obE_callV #[tmV pb tb] rfl rfl rfl rfl (by simp only [List.map_cons,List.map_nil];rw [e9];try rfl) (wanted_none rfl) ((refSize_calls tb pb w (TmIn.mono y3 (Nat.le_trans hB hsz))).mono fun e w' h=>⟨by rw [h.1,hsb],h.2⟩)
 ·refine ⟨⟨fun τ=>stableE_det _,leans_not⟩,?_⟩
  intro a w O hk
  have e8:a.eval (.tmp 8)=.int .i64 sa:=hk.fact 1 _ 8 rfl rfl rfl rfl
  exact toE (ob_assign rfl e8 (wanted_none rfl) rfl)
 ·refine ⟨⟨fun τ=>stableE_det _,leans_not⟩,?_⟩
  intro a w O hk
  have e10:a.eval (.tmp 10)=.int .i64 sb:=hk.fact 3 _ 10 rfl rfl rfl rfl
  exact toE (ob_assign rfl e10 (wanted_none rfl) rfl)
set_option maxRecDepth 100000 in
set_option maxHeartbeats 8000000 in
theorem ig1_region {Q:Exit→Act→World→Prop} {id:Nat} (w0:World) (B:Nat) (ga:Nat) (pa:Pl) (ta:Tm) (gb:Nat) (pb:Pl) (tb:Tm) (sa sb:Int) {s0 s1 s4 s5 s6 s7 s8 s9 s10 s11 s12 s13 s14 s15 s16 s17 s18 s19 s20 s21 s22 s23 s24:Value} (hB:B≤w0.heap.size) (hx2:w0.heap[ga]?=some (tmO pa ta)) (hin2:TmIn w0 B pa ta) (hx3:w0.heap[gb]?=some (tmO pb tb)) (hin3:TmIn w0 B pb tb) (hsa:(measP ta).1=sa) (hsb:(measP tb).1=sb)
  (hend:∀ (w':World),Chg (fun k=>False∨False) w0 w'→Q .normal { tmps:=(s0 :: s1 :: (.pointer (some ⟨ga,0,none⟩)) :: (.pointer (some ⟨gb,0,none⟩)) :: s4 :: (.int .i64 sa) :: (.int .i64 sb) :: (tmV pa ta) :: (.int .i64 sa) :: (tmV pb tb) :: (.int .i64 sb) :: s11 :: s12 :: s13 :: s14 :: s15 :: s16 :: s17 :: s18 :: s19 :: s20 :: s21 :: s22 :: s23 :: s24 :: []:List Value).toArray,defers:=[] } w') :
  (Code.region id ig1_ops.toArray true).wp Try.prog Q { tmps:=(s0 :: s1 :: (.pointer (some ⟨ga,0,none⟩)) :: (.pointer (some ⟨gb,0,none⟩)) :: s4 :: s5 :: s6 :: s7 :: s8 :: s9 :: s10 :: s11 :: s12 :: s13 :: s14 :: s15 :: s16 :: s17 :: s18 :: s19 :: s20 :: s21 :: s22 :: s23 :: s24 :: []:List Value).toArray,defers:=[] } w0:=by
 refine wp_region_est (by kernel_rfl) (est2 0 0 (fun _=>False) (fun _=>False)) ig1_C (ig1_F w0 B ga pa ta gb pb tb sa sb) (est2_dis (fun _ h _=>h)) (est2_range (fun _ h=>h.elim) (fun _ h=>h.elim)) (by rfl) (by kernel_rfl) (ig1_obs w0.drew B ga pa ta gb pb tb sa sb hB hx2 (TmS.same hin2 (fun _ _ _=>rfl)) hx3 (TmS.same hin3 (fun _ _ _=>rfl)) hsa hsb _ _ rfl rfl) ?_
 intro a w' O hd hs hb hf hf2 ha hsame
 have hl:=slots_eq (ops:=ig1_ops.toArray) [(5,.int .i64 sa),(6,.int .i64 sb),(7,tmV pa ta),(8,.int .i64 sa),(9,tmV pb tb),(10,.int .i64 sb)] (show a.tmps.size=25 from hs) (fun i h=>hsame i h) ⟨(hf 4 _ 5 rfl rfl (by decide)).1,(hf 5 _ 6 rfl rfl (by decide)).1,(hf 0 _ 7 rfl rfl (by decide)).1,(hf 1 _ 8 rfl rfl (by decide)).1,(hf 2 _ 9 rfl rfl (by decide)).1,(hf 3 _ 10 rfl rfl (by decide)).1,trivial⟩ (by kernel_rfl)
 obtain ⟨tmps,defers⟩:=a
 obtain rfl:defers=[]:=hd
 have hl':tmps=_:=hl
 rw [hl']
 have hb':=est2_chg hb
 refine Eq.mp ?_ (hend w' ⟨hb'.os,hb'.tape,hb'.output,hb'.size,hb'.block⟩)
 kernel_rfl


set_option maxRecDepth 100000 in
set_option maxHeartbeats 4000000 in
theorem fitsG_calls (S:Nat→Prop) (g0:Nat) (hS:∀ k,S k→k<g0) (t:Tm) (p:Pl) (w:World) (hg0:g0≤w.heap.size) (hin:TmS w S p t) :
  Calls Try.prog 65 #[tmV p t] w (TmGot w S (fitT t)):=by
 by_cases hok:okT t
 ·rw [fitT_ok hok];exact fits_calls S g0 hS hok p w hg0 hin
 rw [fitT_no hok]
 obtain ⟨W,hW⟩:∃ W,W=(w.alloc (tmO p t)).alloc (outK 0 (.slice none 0 0)):=⟨_,rfl⟩
 have hb:Below w.heap.size w W:=by rw [hW];exact below_alloc (below_alloc (Below.refl _ _) _) _
 have HX:=Ak (show W.heap[w.heap.size]?=some (tmO p t) by rw [hW];exact box0 w _ _)
 have HX1:=Ak (show W.heap[w.heap.size+1]?=some (outK 0 (.slice none 0 0)) by rw [hW];exact box1 w _ _)
 have HZ:=Ak (show w.heap.size+1<W.heap.size by rw [hW];simp)
 have HB:=Ak hb
 have HIN:=Ak (TmS.stay hin hS (hb.mono hg0))
 have HSS:=Ak hS
 have HG:=Ak (show (!decide (okT t))=true by simp [hok])
 clear hin hb hS hok
 unfold tmV
 unfold tmO at hW
 go_enter Try.func65,Try.ntmps65
 go_upto_region 1 with (fail)
 rw [← hW]
 clear hW
 go_upto_region 2 with (first
  | (refine wpList_load_row rfl 28 _ rfl (w.heap.size) rfl 28 _ (0,0) _ HX.out Try.underlying28 rfl (by kernel_rfl) ?_)
  | (go_at_call 26;go_must (refine (tooGreat_calls t p W (TmS.mono HIN.out fun k h _=>Nat.lt_of_lt_of_le (HSS.out k h) (Nat.le_trans hg0 HB.out.size))).mono ?_;rintro e w1 ⟨rfl,hb⟩;rw [HG.out];have HX01:=Ak ((hb.block _ (blk_lt HX.out)).trans HX.out);have HX11:=Ak ((hb.block _ (blk_lt HX1.out)).trans HX1.out);have HB1:=Ak (below_then HB.out HB.out.size hb);have HZ1:=Ak (show w.heap.size+1+1≤w1.heap.size by have:=hb.size;have:=HZ.out;omega);have HIN1:=Ak (TmS.stay HIN.out HSS.out (hb.mono (Nat.le_trans hg0 HB.out.size)));clear hb)))
 clear HX HX1 HB HIN
 obtain ⟨r0,r1,r2,r3,r4,r5,r6,r7,f0,f1,f2,f3,f4,f5,f6,f7⟩:=row8c HX11.out
 go_wp2
 refine bodyPost_ret (results_c rfl _ _ (w.heap.size+1) 28 #[.int .i64 0,.int .i64 0,.string ⟨#[]⟩,.int .i64 0,.int .i64 0,.slice none 0 0,.slice none 0 0,.slice none 0 0] (0,0) _ rfl (set8 HX11.out) Try.underlying28 rfl (by kernel_rfl)) rfl ?_
 exact tm_retS (y:=zeroT) (q:=plz) (g:=w.heap.size+1) (m:=w.heap.size+1+1) (zeroT_flat _ _) (chg_set8 w1 (w.heap.size+1) (.int .i64 0) (.int .i64 0) (.string ⟨#[]⟩) (.int .i64 0) (.int .i64 0) (.slice none 0 0) (.slice none 0 0) (.slice none 0 0)) hg0 (by omega) (by omega) HB1.out HSS.out
def instZ (t v:Tm):Int:=if okT t∧okT v then min 20001 (instS t v) else 0
set_option maxRecDepth 100000 in
set_option maxHeartbeats 8000000 in
theorem instSizeG_calls (t v:Tm) (p pv:Pl) (w:World) (hin:TmIn w w.heap.size p t) (hinv:TmIn w w.heap.size pv v) :
  Calls Try.prog 64 #[tmV p t,tmV pv v] w fun e w'=>e=.returned (.int .i64 (instZ t v))∧Below w.heap.size w w':=by
 obtain ⟨W,hW⟩:∃ W,W=(w.alloc (tmO p t)).alloc (tmO pv v):=⟨_,rfl⟩
 have hb:Below w.heap.size w W:=by rw [hW];exact below_alloc (below_alloc (Below.refl _ _) _) _
 have HX:=Ak (show W.heap[w.heap.size]?=some (tmO p t) by rw [hW];exact box0 w _ _)
 have HX1:=Ak (show W.heap[w.heap.size+1]?=some (tmO pv v) by rw [hW];exact box1 w _ _)
 have HB:=Ak hb
 have HIN:=Ak (TmIn.stay hin hb)
 have HINV:=Ak (TmIn.stay hinv hb)
 obtain ⟨sa,hsa⟩:∃ s,(measP t).1=s:=⟨_,rfl⟩
 obtain ⟨sb,hsb⟩:∃ s,(measP v).1=s:=⟨_,rfl⟩
 have HSA:=Ak hsa
 have HSB:=Ak hsb
 clear hin hinv hb
 unfold tmV
 unfold tmO at hW
 go_enter Try.func64,Try.ntmps64
 go_upto_region 1 with (fail)
 rw [← hW]
 clear hW
 refine ig1_region W w.heap.size w.heap.size p t (w.heap.size+1) pv v sa sb HB.out.size HX.out HIN.out HX1.out HINV.out HSA.out HSB.out ?_
 intro w2 hch
 have hb2:=hch.below (fun _ h=>h.elim False.elim False.elim) (Nat.le_refl W.heap.size)
 have HB2:=Ak (below_then HB.out HB.out.size hb2)
 have HX2:=Ak ((hb2.block _ (blk_lt HX.out)).trans HX.out)
 have HIN2:=Ak (TmIn.stay HIN.out (hb2.mono HB.out.size))
 clear hch hb2
 by_cases hk:okT t
 ·have hta:sa=(sizeT t:Int):=by rw [← hsa,meas_yes hk]
  have hpa:=size_pos t
  have hsa0:(sa == 0)=false:=by simp;omega
  by_cases hk2:okT v
  ·have htb:sb=(sizeT v:Int):=by rw [← hsb,meas_yes hk2]
   have hpb:=size_pos v
   have hsb0:(sb == 0)=false:=by simp;omega
   obtain ⟨n,hn⟩:∃ n:Int,n=(occT t 0:Int):=⟨_,rfl⟩
   have hn1:0≤n∧n≤20000:=by
    have h1:=(pl_val 1 (by decide) _ t (Nat.lt_succ_self _) 1 0 0 (by decide) (by have:=hk.1;omega)).2
    have:=hk.1
    omega
   have hs1:1≤sa∧sa≤20000:=by have:=hk.1;omega
   have hs2:1≤sb∧sb≤20000:=by have:=hk2.1;omega
   have hmul:0≤n * (sb - 1)∧n * (sb - 1)≤400000000:=by
    refine ⟨Int.mul_nonneg (by omega) (by omega),?_⟩
    have:=Int.mul_le_mul hn1.2 (show sb - 1≤20000 by omega) (by omega) (by decide)
    omega
   have HV:=Ak (show instZ t v=min 20001 (sa+n * (sb - 1)) by unfold instZ instS;rw [if_pos ⟨hk,hk2⟩,hta,htb,hn])
   have HOC:=Ak (show ∀ w,TmIn w w.heap.size p t→Calls Try.prog 52 #[tmV p t,.int .i64 0] w fun e w'=>e=.returned (.int .i64 n)∧Below w.heap.size w w' from fun w h=>by rw [hn];exact refOccurs_calls t p 0 ⟨by decide,by decide⟩ w h hk)
   have e1:wrap64 (sb - 1)=sb - 1:=by unfold wrap64;omega
   obtain ⟨z,hz⟩:∃ z,n * (sb - 1)=z:=⟨_,rfl⟩
   rw [hz] at hmul HV
   have e2:wrap64 (n * (sb - 1))=z:=by rw [hz];unfold wrap64;omega
   have e3:wrap64 (sa+z)=sa+z:=by unfold wrap64;omega
   clear hta htb hn hz hk hk2 hsa hsb hpa hpb
   by_cases hlt:sa+z<20001
   ·have HM:=Ak (show min 20001 (sa+z)=sa+z by omega)
    go_wp2_with (first
     | (refine wpList_load_row rfl 28 _ rfl (w.heap.size) rfl 28 _ (0,0) _ HX2.out Try.underlying28 rfl (by kernel_rfl) ?_)
     | (go_at_call 52;go_must (refine (HOC.out w2 (TmS.mono HIN2.out fun k h _=>Nat.lt_of_lt_of_le h HB2.out.size)).mono ?_;rintro e w3 ⟨rfl,hb3⟩;have HB3:=Ak (below_then HB2.out HB2.out.size hb3);clear hb3)))
    go_ret
    rw [HV.out,HM.out]
    exact ⟨rfl,HB3.out⟩
   ·have HM:=Ak (show min 20001 (sa+z)=20001 by omega)
    go_wp2_with (first
     | (refine wpList_load_row rfl 28 _ rfl (w.heap.size) rfl 28 _ (0,0) _ HX2.out Try.underlying28 rfl (by kernel_rfl) ?_)
     | (go_at_call 52;go_must (refine (HOC.out w2 (TmS.mono HIN2.out fun k h _=>Nat.lt_of_lt_of_le h HB2.out.size)).mono ?_;rintro e w3 ⟨rfl,hb3⟩;have HB3:=Ak (below_then HB2.out HB2.out.size hb3);clear hb3)))
    go_ret
    rw [HV.out,HM.out]
    exact ⟨rfl,HB3.out⟩
  ·have htb:sb=0:=by rw [← hsb,meas_no hk2]
   have HV:=Ak (show instZ t v=0 by unfold instZ;rw [if_neg (fun h=>hk2 h.2)])
   subst htb
   clear hta hk hk2 hsa hsb hpa
   go_wp2
   go_ret
   rw [HV.out]
   exact ⟨rfl,HB2.out⟩
 ·have hta:sa=0:=by rw [← hsa,meas_no hk]
  have HV:=Ak (show instZ t v=0 by unfold instZ;rw [if_neg (fun h=>hk h.1)])
  subst hta
  clear hk hsa hsb
  go_wp2
  go_ret
  rw [HV.out]
  exact ⟨rfl,HB2.out⟩
end Go.Proofs.Ytdboloabpjmgaaa

namespace Go.Proofs.Ytdboloabpjmgaaa
open Go.RowKit Go.Proofs.YtdboloabpjmgaaaW.PrintWords Go.RegionInvYtdboloabpjmgaaa Go.RegionEYtdboloabpjmgaaa

def rpG (v:Tm) (t:Tm) (d:Int):Tm:=putL v (bareG t) d
def InstR (t v:Tm):Tm:=if okT t∧okT v∧instS t v≤20000 then fitT (rebP (rpG v) t 0) else zeroT
theorem rwgP_calls (S:Nat→Prop) (g0:Nat) (hS:∀ k,S k→k<g0) (t v:Tm) (p pv:Pl) (w:World) (hdp:depthT t≤1000000) (hdv:depthT v≤1000000) (hg0:g0≤w.heap.size) (hin:TmS w S p t) (hinv:TmS w S pv v) :
  Calls Try.prog 66 #[chGV 1 0 0 pv v none 0 0,tmV p t,.int .i64 0] w (TmGot w S (rebP (rpG v) t 0)):=
 rwg_calls 1 0 0 pv v none 0 0 (rpG v) g0 S (fun W=>TmS W S pv v) hS (fun W W' h hs=>h.same fun k hk _=>hs k (hS k hk))
  (fun t d S' q w _ h0 h1 _ hR hS' hSS ht=>leafPG_calls d pv v S' (bareG t) q w hdv ⟨h0,h1⟩ hS' ht (hR.mono fun k h _=>hSS k h)) _ t (Nat.lt_succ_self _) p 0 w (Int.le_refl _) (by omega) hg0 hinv hin
theorem instZ_pos {t v:Tm} (h:okT t) (h2:okT v):1≤instS t v:=by
 unfold instS
 have h1:=size_pos t
 have h3:=size_pos v
 have:=Int.mul_nonneg (show (0:Int)≤(occT t 0:Int) by omega) (show (0:Int)≤(sizeT v:Int) - 1 by omega)
 omega
set_option maxRecDepth 100000 in
set_option maxHeartbeats 8000000 in
theorem refInstG_calls (S:Nat→Prop) (g0:Nat) (hS:∀ k,S k→k<g0) (t v:Tm) (p pv:Pl) (w:World) (hg0:g0≤w.heap.size) (hin:TmS w S p t) (hinv:TmS w S pv v) :
  Calls Try.prog 18 #[tmV p t,tmV pv v] w (TmGot w S (InstR t v)):=by
 obtain ⟨W,hW⟩:∃ W,W=((w.alloc (tmO p t)).alloc (tmO pv v)).alloc (outK 0 (.slice none 0 0)):=⟨_,rfl⟩
 have hb:Below w.heap.size w W:=by rw [hW];exact below_alloc (below_alloc (below_alloc (Below.refl _ _) _) _) _
 have HX:=Ak (show W.heap[w.heap.size]?=some (tmO p t) by rw [hW];exact blk_alloc (box0 w _ _) _)
 have HX1:=Ak (show W.heap[w.heap.size+1]?=some (tmO pv v) by rw [hW];exact blk_alloc (box1 w _ _) _)
 have HX2:=Ak (show W.heap[w.heap.size+1+1]?=some (outK 0 (.slice none 0 0)) by
  rw [hW]
  have:=blk_new ((w.alloc (tmO p t)).alloc (tmO pv v)) (outK 0 (.slice none 0 0))
  simp only [World.size_alloc] at this
  exact this)
 have HB:=Ak hb
 have HZ:=Ak (show W.heap.size=w.heap.size+3 by rw [hW];simp)
 have HIN:=Ak (TmS.stay hin hS (hb.mono hg0))
 have HINV:=Ak (TmS.stay hinv hS (hb.mono hg0))
 obtain ⟨s,hs⟩:∃ s:Int,s=instZ t v:=⟨_,rfl⟩
 have HSZ:=Ak (show ∀ w,TmIn w w.heap.size p t→TmIn w w.heap.size pv v→Calls Try.prog 64 #[tmV p t,tmV pv v] w fun e w'=>e=.returned (.int .i64 s)∧Below w.heap.size w w' from fun w h h2=>by rw [hs];exact instSizeG_calls t v p pv w h h2)
 have HWK:=Ak (show depthT t≤1000000→depthT v≤1000000→∀ w,g0≤w.heap.size→TmS w S p t→TmS w S pv v→Calls Try.prog 66 #[.agg #[.int .i64 1,.int .i64 0,.int .i64 0,.int .i64 v.kind,.int .i64 v.num,.string v.name,.int .i64 v.lv.kind,.int .i64 v.lv.num,.slice pv.A v.lv.kids.length pv.c,.slice pv.B v.ls.length pv.d,.slice pv.K v.kids.length pv.e,.slice none 0 0],tmV p t,.int .i64 0] w (TmGot w S (rebP (rpG v) t 0)) from fun h1 h2 w hg h h3=>rwgP_calls S g0 hS t v p pv w h1 h2 hg h h3)
 have HSP:=Ak hs
 have HSS:=Ak hS
 clear hin hinv hb hs hS
 unfold tmV
 unfold tmO at hW
 go_enter Try.func18,Try.ntmps18
 go_upto_region 1 with (fail)
 rw [← hW]
 clear hW
 go_upto_region 2 with (first
  | (refine wpList_load_row rfl 28 _ rfl (w.heap.size) rfl 28 _ (0,0) _ HX.out Try.underlying28 rfl (by kernel_rfl) ?_)
  | (refine wpList_load_row rfl 28 _ rfl (w.heap.size+1) rfl 28 _ (0,0) _ HX1.out Try.underlying28 rfl (by kernel_rfl) ?_)
  | (go_at_call 64;go_must (refine (HSZ.out W (TmS.mono HIN.out fun k h _=>Nat.lt_of_lt_of_le (HSS.out k h) (Nat.le_trans hg0 HB.out.size)) (TmS.mono HINV.out fun k h _=>Nat.lt_of_lt_of_le (HSS.out k h) (Nat.le_trans hg0 HB.out.size))).mono ?_;rintro e w1 ⟨rfl,hb⟩;have HX01:=Ak ((hb.block _ (blk_lt HX.out)).trans HX.out);have HX11:=Ak ((hb.block _ (blk_lt HX1.out)).trans HX1.out);have HX21:=Ak ((hb.block _ (blk_lt HX2.out)).trans HX2.out);have HB1:=Ak (below_then HB.out HB.out.size hb);have HZ1:=Ak (show w.heap.size+3≤w1.heap.size by have:=hb.size;have:=HZ.out;omega);have HIN1:=Ak (TmS.stay HIN.out HSS.out (hb.mono (Nat.le_trans hg0 HB.out.size)));have HINV1:=Ak (TmS.stay HINV.out HSS.out (hb.mono (Nat.le_trans hg0 HB.out.size)));clear hb)))
 by_cases hgood:okT t∧okT v∧instS t v≤20000
 ·have HE:=Ak (show InstR t v=fitT (rebP (rpG v) t 0) from if_pos hgood)
  have hsv:s=instS t v:=by rw [HSP.out];unfold instZ;rw [if_pos ⟨hgood.1,hgood.2.1⟩];omega
  have hp1:=instZ_pos hgood.1 hgood.2.1
  have hs0:(s == 0)=false:=by simp;omega
  have hle:¬ 20000<s:=by omega
  have HWK2:=Ak (HWK.out (by have:=hgood.1.2;omega) (by have:=hgood.2.1.2;omega))
  obtain ⟨z,hz⟩:∃ z,z=rebP (rpG v) t 0:=⟨_,rfl⟩
  rw [← hz] at HE HWK2
  obtain ⟨y,hy⟩:∃ y,y=fitT z:=⟨_,rfl⟩
  have HY:=Ak hy
  rw [← hy] at HE
  clear hz hy HWK hgood hsv hp1
  go_wp2_with (first
   | (refine wpList_load_row rfl 28 _ rfl (w.heap.size) rfl 28 _ (0,0) _ HX01.out Try.underlying28 rfl (by kernel_rfl) ?_)
   | (refine wpList_load_row rfl 28 _ rfl (w.heap.size+1) rfl 28 _ (0,0) _ HX11.out Try.underlying28 rfl (by kernel_rfl) ?_)
   | (go_at_call 66;go_must (refine (HWK2.out w1 (Nat.le_trans hg0 HB1.out.size) HIN1.out HINV1.out).mono ?_;rintro e w2 ⟨q8,rfl,ht8,hb2⟩;have HT8:=Ak ht8;have HX22:=Ak ((hb2.block _ (blk_lt HX21.out)).trans HX21.out);have HB2:=Ak (below_then HB1.out HB1.out.size hb2);clear ht8 hb2;unfold tmV))
   | (go_at_call 65;go_must (refine (fitsG_calls (fun k=>(S k∨w1.heap.size≤k)∧k<w2.heap.size) w2.heap.size (fun k h=>h.2) z q8 w2 (Nat.le_refl _) (TmS.mono HT8.out fun k h hz=>⟨h,hz⟩)).mono ?_;rw [← HY.out];rintro e w3 ⟨q9,rfl,ht9,hb3⟩;have HT9:=Ak ht9;have HX13:=Ak ((hb3.block _ (blk_lt HX22.out)).trans HX22.out);have HB3:=Ak (below_then HB2.out HB2.out.size hb3);obtain ⟨r0,r1,r2,r3,r4,r5,r6,r7,f0,f1,f2,f3,f4,f5,f6,f7⟩:=row8c HX13.out;clear ht9 hb3;unfold tmV)))
  refine bodyPost_ret (results_c rfl _ _ (w.heap.size+1+1) 28 #[.int .i64 y.kind,.int .i64 y.num,.string y.name,.int .i64 y.lv.kind,.int .i64 y.lv.num,.slice q9.A y.lv.kids.length q9.c,.slice q9.B y.ls.length q9.d,.slice q9.K y.kids.length q9.e] (0,0) _ rfl (set8 HX13.out) Try.underlying28 rfl (by kernel_rfl)) rfl ?_
  rw [HE.out]
  exact tm_retS (S:=S) (g0:=g0) (g:=w.heap.size+1+1) (m:=w.heap.size+3) (HT9.out.mono fun k h _=>by
   have hz1:=HZ1.out
   rcases h with ⟨h,_⟩ | h
   ·exact h.imp id (fun h=>by omega)
   ·exact .inr (by have:=HB2.out.size;have:=blk_lt HX22.out;omega)) (chg_set8 w3 (w.heap.size+1+1) (.int .i64 y.kind) (.int .i64 y.num) (.string y.name) (.int .i64 y.lv.kind) (.int .i64 y.lv.num) (.slice q9.A y.lv.kids.length q9.c) (.slice q9.B y.ls.length q9.d) (.slice q9.K y.kids.length q9.e)) hg0 (by omega) (by omega) HB3.out HSS.out
 ·have HE:=Ak (show InstR t v=zeroT from if_neg hgood)
  have hcase:s=0∨20000<s:=by
   rw [HSP.out]
   unfold instZ
   by_cases h:okT t∧okT v
   ·rw [if_pos h]
    have:¬ instS t v≤20000:=fun h2=>hgood ⟨h.1,h.2,h2⟩
    omega
   ·rw [if_neg h];exact .inl rfl
  obtain ⟨r0,r1,r2,r3,r4,r5,r6,r7,f0,f1,f2,f3,f4,f5,f6,f7⟩:=row8c HX21.out
  clear hgood HWK HSZ
  by_cases hs0:s=0
  ·have hsb:(s == 0)=true:=by simp [hs0]
   clear hs0 hcase
   go_wp2
   refine bodyPost_ret (results_c rfl _ _ (w.heap.size+1+1) 28 #[.int .i64 0,.int .i64 0,.string ⟨#[]⟩,.int .i64 0,.int .i64 0,.slice none 0 0,.slice none 0 0,.slice none 0 0] (0,0) _ rfl (set8 HX21.out) Try.underlying28 rfl (by kernel_rfl)) rfl ?_
   rw [HE.out]
   exact tm_retS (S:=S) (g0:=g0) (y:=zeroT) (q:=plz) (g:=w.heap.size+1+1) (m:=w.heap.size+3) (zeroT_flat _ _) (chg_set8 w1 (w.heap.size+1+1) (.int .i64 0) (.int .i64 0) (.string ⟨#[]⟩) (.int .i64 0) (.int .i64 0) (.slice none 0 0) (.slice none 0 0) (.slice none 0 0)) hg0 (by omega) (by omega) HB1.out HSS.out
  ·have hsb:(s == 0)=false:=by simp [hs0]
   have hgt:20000<s:=by omega
   clear hs0 hcase
   go_wp2
   refine bodyPost_ret (results_c rfl _ _ (w.heap.size+1+1) 28 #[.int .i64 0,.int .i64 0,.string ⟨#[]⟩,.int .i64 0,.int .i64 0,.slice none 0 0,.slice none 0 0,.slice none 0 0] (0,0) _ rfl (set8 HX21.out) Try.underlying28 rfl (by kernel_rfl)) rfl ?_
   rw [HE.out]
   exact tm_retS (S:=S) (g0:=g0) (y:=zeroT) (q:=plz) (g:=w.heap.size+1+1) (m:=w.heap.size+3) (zeroT_flat _ _) (chg_set8 w1 (w.heap.size+1+1) (.int .i64 0) (.int .i64 0) (.string ⟨#[]⟩) (.int .i64 0) (.int .i64 0) (.slice none 0 0) (.slice none 0 0) (.slice none 0 0)) hg0 (by omega) (by omega) HB1.out HSS.out
end Go.Proofs.Ytdboloabpjmgaaa

namespace Go.Proofs.Ytdboloabpjmgaaa
open Go.RowKit Go.Proofs.YtdboloabpjmgaaaW.PrintWords Go.RegionInvYtdboloabpjmgaaa Go.RegionEYtdboloabpjmgaaa
set_option linter.unusedVariables false
def al2_ops:List Oper:=[
 { dst:=some 11,op:=Go.Op.load 28 (Go.Operand.tmp 2),type:=28,pos:= "law.go:56",after:=#[],guard:=none },
 { dst:=some 12,op:=Go.Op.call { callee:=Go.Callee.value (Go.Operand.func 26),args:=#[Go.Operand.tmp 11],argTypes:=#[28] },type:=4,pos:= "law.go:56",after:=#[{ on:=0,ground:=Go.Ground.data }],guard:=none },
 { dst:=some 13,op:=Go.Op.load 28 (Go.Operand.tmp 3),type:=28,pos:= "law.go:56",after:=#[],guard:=none },
 { dst:=some 14,op:=Go.Op.call { callee:=Go.Callee.value (Go.Operand.func 26),args:=#[Go.Operand.tmp 13],argTypes:=#[28] },type:=4,pos:= "law.go:56",after:=#[{ on:=2,ground:=Go.Ground.data },{ on:=1,ground:=Go.Ground.chain }],guard:=none },
 { dst:=some 15,op:=Go.Op.binOp Go.BinOp.eql 4 (Go.Operand.tmp 12) (Go.Operand.tmp 14) 4,type:=4,pos:= "law.go:56",after:=#[{ on:=1,ground:=Go.Ground.data },{ on:=3,ground:=Go.Ground.data }],guard:=none },
 { dst:=some 4,op:=Go.Op.assign (Go.Operand.tmp 15),type:=4,pos:= "law.go:56",after:=#[{ on:=4,ground:=Go.Ground.data },{ on:=3,ground:=Go.Ground.chain },{ on:=0,ground:=Go.Ground.phase },{ on:=1,ground:=Go.Ground.phase },{ on:=2,ground:=Go.Ground.phase },{ on:=3,ground:=Go.Ground.phase },{ on:=4,ground:=Go.Ground.phase }],guard:=none }]
def al2_F (w0:World) (B:Nat) (ga:Nat) (pa:Pl) (ta:Tm) (gb:Nat) (pb:Pl) (tb:Tm) (x y:Bool):Nat→(Nat→Value)→Value→World→(Nat→Prop)→Prop:=fun rix=>match rix with
 | 0=>fun _ v _ _=>v=tmV pa ta
 | 1=>fun _ v _ _=>v=.bool x
 | 2=>fun _ v _ _=>v=tmV pb tb
 | 3=>fun _ v _ _=>v=.bool y
 | 4=>fun _ v _ _=>v=.bool (x == y)
 | 5=>fun _ v _ _=>v=.bool (x == y)
 | _=>fun _ _ _ _=>True
def al2_C:Nat→List Nat:=fun rix=>match rix with
 | _=>[]
theorem al2_nw2:nwB al2_ops.toArray 2=true:=by kernel_rfl
theorem al2_nw3:nwB al2_ops.toArray 3=true:=by kernel_rfl
set_option maxRecDepth 100000 in
set_option maxHeartbeats 8000000 in
theorem al2_obs (w0:World) (B:Nat) (ga:Nat) (pa:Pl) (ta:Tm) (gb:Nat) (pb:Pl) (tb:Tm) (x y:Bool) (hB:B≤w0.heap.size) (hx2:w0.heap[ga]?=some (tmO pa ta)) (hin2:TmIn w0 B pa ta) (hx3:w0.heap[gb]?=some (tmO pb tb)) (hin3:TmIn w0 B pb tb) (h1:(!decide (okT ta))=x) (h2:(!decide (okT tb))=y) (Q:Exit→Act→World→Prop) (a0:Act) (hi2:a0.tmps.getD 2 undef=.pointer (some ⟨ga,0,none⟩)) (hi3:a0.tmps.getD 3 undef=.pointer (some ⟨gb,0,none⟩)) :
  ObsE Try.prog al2_ops.toArray Q (est2 0 0 (fun _=>False) (fun _=>False)) al2_C (al2_F w0 B ga pa ta gb pb tb x y) a0 w0 al2_ops.toArray.toList 0:=by
 have nw2:=al2_nw2
 have nw3:=al2_nw3
 refine ⟨?_,?_,?_,?_,?_,?_,trivial⟩
 ·refine ⟨⟨fun τ=>stableE_det _,leans_not⟩,?_⟩
  intro a w O hk
  have e2:a.eval (.tmp 2)=.pointer (some ⟨ga,0,none⟩):=(hk.init 2 (initialB_of_nw nw2)).trans hi2
  have x2:=hk.world.still hx2 (fun ⟨_,h⟩=>h.elim And.right And.right)
  have x3:=hk.world.still hx3 (fun ⟨_,h⟩=>h.elim And.right And.right)
  have hfx:∀ k,k<B→w.heap[k]?=w0.heap[k]?:=fun k hk'=>hk.fix k ((fun k hk'=>est2_fix (Nat.lt_of_lt_of_le hk' hB) (fun e=>e.elim) (fun e=>e.elim)) k hk')
  have hsz:=hk.world.size
  have y2:=hin2.same (w':=w) (fun k hk' _=>hfx k hk')
  have y3:=hin3.same (w':=w) (fun k hk' _=>hfx k hk')
  exact obE_loadRow rfl e2 x2 Try.underlying28 rfl (by kernel_rfl) (wanted_none rfl) rfl
 ·refine ⟨⟨fun τ=>stableE_det _,leans_not⟩,?_⟩
  intro a w O hk
  have e11:a.eval (.tmp 11)=tmV pa ta:=hk.fact 0 _ 11 rfl rfl rfl rfl
  have x2:=hk.world.still hx2 (fun ⟨_,h⟩=>h.elim And.right And.right)
  have x3:=hk.world.still hx3 (fun ⟨_,h⟩=>h.elim And.right And.right)
  have hfx:∀ k,k<B→w.heap[k]?=w0.heap[k]?:=fun k hk'=>hk.fix k ((fun k hk'=>est2_fix (Nat.lt_of_lt_of_le hk' hB) (fun e=>e.elim) (fun e=>e.elim)) k hk')
  have hsz:=hk.world.size
  have y2:=hin2.same (w':=w) (fun k hk' _=>hfx k hk')
  have y3:=hin3.same (w':=w) (fun k hk' _=>hfx k hk')
  exact obE_callV #[tmV pa ta] rfl rfl rfl rfl (by simp only [List.map_cons,List.map_nil];rw [e11];try rfl) (wanted_none rfl) ((tooGreat_calls ta pa w (TmIn.mono y2 (Nat.le_trans hB hsz))).mono fun e w' h=>⟨by rw [h.1,h1],h.2⟩)
 ·refine ⟨⟨fun τ=>stableE_det _,leans_not⟩,?_⟩
  intro a w O hk
  have e3:a.eval (.tmp 3)=.pointer (some ⟨gb,0,none⟩):=(hk.init 3 (initialB_of_nw nw3)).trans hi3
  have x2:=hk.world.still hx2 (fun ⟨_,h⟩=>h.elim And.right And.right)
  have x3:=hk.world.still hx3 (fun ⟨_,h⟩=>h.elim And.right And.right)
  have hfx:∀ k,k<B→w.heap[k]?=w0.heap[k]?:=fun k hk'=>hk.fix k ((fun k hk'=>est2_fix (Nat.lt_of_lt_of_le hk' hB) (fun e=>e.elim) (fun e=>e.elim)) k hk')
  have hsz:=hk.world.size
  have y2:=hin2.same (w':=w) (fun k hk' _=>hfx k hk')
  have y3:=hin3.same (w':=w) (fun k hk' _=>hfx k hk')
  exact obE_loadRow rfl e3 x3 Try.underlying28 rfl (by kernel_rfl) (wanted_none rfl) rfl
 ·refine ⟨⟨fun τ=>stableE_det _,leans_not⟩,?_⟩
  intro a w O hk
  have e13:a.eval (.tmp 13)=tmV pb tb:=hk.fact 2 _ 13 rfl rfl rfl rfl
  have x2:=hk.world.still hx2 (fun ⟨_,h⟩=>h.elim And.right And.right)
  have x3:=hk.world.still hx3 (fun ⟨_,h⟩=>h.elim And.right And.right)
  have hfx:∀ k,k<B→w.heap[k]?=w0.heap[k]?:=fun k hk'=>hk.fix k ((fun k hk'=>est2_fix (Nat.lt_of_lt_of_le hk' hB) (fun e=>e.elim) (fun e=>e.elim)) k hk')
  have hsz:=hk.world.size
  have y2:=hin2.same (w':=w) (fun k hk' _=>hfx k hk')
  have y3:=hin3.same (w':=w) (fun k hk' _=>hfx k hk')
  exact obE_callV #[tmV pb tb] rfl rfl rfl rfl (by simp only [List.map_cons,List.map_nil];rw [e13];try rfl) (wanted_none rfl) ((tooGreat_calls tb pb w (TmIn.mono y3 (Nat.le_trans hB hsz))).mono fun e w' h=>⟨by rw [h.1,h2],h.2⟩)
 ·refine ⟨⟨fun τ=>stableE_det _,leans_not⟩,?_⟩
  intro a w O hk
  have e12:a.eval (.tmp 12)=.bool x:=hk.fact 1 _ 12 rfl rfl rfl rfl
  have e14:a.eval (.tmp 14)=.bool y:=hk.fact 3 _ 14 rfl rfl rfl rfl
  have x2:=hk.world.still hx2 (fun ⟨_,h⟩=>h.elim And.right And.right)
  have x3:=hk.world.still hx3 (fun ⟨_,h⟩=>h.elim And.right And.right)
  have hfx:∀ k,k<B→w.heap[k]?=w0.heap[k]?:=fun k hk'=>hk.fix k ((fun k hk'=>est2_fix (Nat.lt_of_lt_of_le hk' hB) (fun e=>e.elim) (fun e=>e.elim)) k hk')
  have hsz:=hk.world.size
  have y2:=hin2.same (w':=w) (fun k hk' _=>hfx k hk')
  have y3:=hin3.same (w':=w) (fun k hk' _=>hfx k hk')
  exact toE (ob_eqlBool (x == y) rfl e12 e14 Try.underlying4 rfl (wanted_none rfl) rfl)
 ·refine ⟨⟨fun τ=>stableE_det _,leans_not⟩,?_⟩
  intro a w O hk
  have e15:a.eval (.tmp 15)=.bool (x == y):=hk.fact 4 _ 15 rfl rfl rfl rfl
  exact toE (ob_assign rfl e15 (wanted_none rfl) rfl)
set_option maxRecDepth 100000 in
set_option maxHeartbeats 8000000 in
theorem al2_region {Q:Exit→Act→World→Prop} {id:Nat} (w0:World) (B:Nat) (ga:Nat) (pa:Pl) (ta:Tm) (gb:Nat) (pb:Pl) (tb:Tm) (x y:Bool) {s0 s1 s4 s5 s6 s7 s8 s9 s10 s11 s12 s13 s14 s15 s16 s17 s18:Value} (hB:B≤w0.heap.size) (hx2:w0.heap[ga]?=some (tmO pa ta)) (hin2:TmIn w0 B pa ta) (hx3:w0.heap[gb]?=some (tmO pb tb)) (hin3:TmIn w0 B pb tb) (h1:(!decide (okT ta))=x) (h2:(!decide (okT tb))=y)
  (hend:∀ (w':World),Chg (fun k=>False∨False) w0 w'→Q .normal { tmps:=(s0 :: s1 :: (.pointer (some ⟨ga,0,none⟩)) :: (.pointer (some ⟨gb,0,none⟩)) :: (.bool (x == y)) :: s5 :: s6 :: s7 :: s8 :: s9 :: s10 :: (tmV pa ta) :: (.bool x) :: (tmV pb tb) :: (.bool y) :: (.bool (x == y)) :: s16 :: s17 :: s18 :: []:List Value).toArray,defers:=[] } w') :
  (Code.region id al2_ops.toArray true).wp Try.prog Q { tmps:=(s0 :: s1 :: (.pointer (some ⟨ga,0,none⟩)) :: (.pointer (some ⟨gb,0,none⟩)) :: s4 :: s5 :: s6 :: s7 :: s8 :: s9 :: s10 :: s11 :: s12 :: s13 :: s14 :: s15 :: s16 :: s17 :: s18 :: []:List Value).toArray,defers:=[] } w0:=by
 refine wp_region_est (by kernel_rfl) (est2 0 0 (fun _=>False) (fun _=>False)) al2_C (al2_F w0 B ga pa ta gb pb tb x y) (est2_dis (fun _ h _=>h)) (est2_range (fun _ h=>h.elim) (fun _ h=>h.elim)) (by rfl) (by kernel_rfl) (al2_obs w0.drew B ga pa ta gb pb tb x y hB hx2 (TmS.same hin2 (fun _ _ _=>rfl)) hx3 (TmS.same hin3 (fun _ _ _=>rfl)) h1 h2 _ _ rfl rfl) ?_
 intro a w' O hd hs hb hf hf2 ha hsame
 have hl:=slots_eq (ops:=al2_ops.toArray) [(4,.bool (x == y)),(11,tmV pa ta),(12,.bool x),(13,tmV pb tb),(14,.bool y),(15,.bool (x == y))] (show a.tmps.size=19 from hs) (fun i h=>hsame i h) ⟨(hf 5 _ 4 rfl rfl (by decide)).1,(hf 0 _ 11 rfl rfl (by decide)).1,(hf 1 _ 12 rfl rfl (by decide)).1,(hf 2 _ 13 rfl rfl (by decide)).1,(hf 3 _ 14 rfl rfl (by decide)).1,(hf 4 _ 15 rfl rfl (by decide)).1,trivial⟩ (by kernel_rfl)
 obtain ⟨tmps,defers⟩:=a
 obtain rfl:defers=[]:=hd
 have hl':tmps=_:=hl
 rw [hl']
 have hb':=est2_chg hb
 refine Eq.mp ?_ (hend w' ⟨hb'.os,hb'.tape,hb'.output,hb'.size,hb'.block⟩)
 kernel_rfl
set_option maxRecDepth 100000 in
set_option maxHeartbeats 4000000 in
theorem alike_calls (t u:Tm) (p q:Pl) (w:World) (hco:okT t→okT u→CmpOk t u) (hin:TmIn w w.heap.size p t) (hin2:TmIn w w.heap.size q u) :
  Calls Try.prog 22 #[tmV p t,tmV q u] w fun e w'=>e=.returned (.bool (alikeT t u))∧Below w.heap.size w w':=by
 have HCO:=Ak hco
 have HIN:=Ak hin
 have HIN2:=Ak hin2
 obtain ⟨W,hW⟩:∃ W,W=(w.alloc (tmO p t)).alloc (tmO q u):=⟨_,rfl⟩
 have hb:Below w.heap.size w W:=by rw [hW];exact below_alloc (below_alloc (Below.refl _ _) _) _
 have HX:=Ak (show W.heap[w.heap.size]?=some (tmO p t) by rw [hW];exact box0 w _ _)
 have HY:=Ak (show W.heap[w.heap.size+1]?=some (tmO q u) by rw [hW];exact box1 w _ _)
 have HB:=Ak hb
 clear hin hin2 hb hco
 unfold tmV
 unfold tmO at hW
 go_enter Try.func22,Try.ntmps22
 go_upto_region 1 with (fail)
 rw [← hW]
 clear hW
 obtain ⟨ga,hga⟩:∃ x,(!decide (okT t))=x:=⟨_,rfl⟩
 obtain ⟨gb,hgb⟩:∃ x,(!decide (okT u))=x:=⟨_,rfl⟩
 have HG1:=Ak hga
 have HG2:=Ak hgb
 have HE:=Ak (show alikeT t u=if ga=false∧gb=false then nearT t u else (ga == gb) by
  unfold alikeT
  rw [← hga,← hgb]
  by_cases h1:okT t <;> by_cases h2:okT u <;> simp [h1,h2])
 have HOK:=Ak (show ga=false→gb=false→CmpOk t u from fun h1 h2=>HCO.out (by rw [← hga] at h1;simpa using h1) (by rw [← hgb] at h2;simpa using h2))
 clear hga hgb
 cases ga with
 | true =>
  have HE2:=Ak (show alikeT t u=(true == gb) by rw [HE.out];simp)
  go_upto_region 2 with (first
   | (refine wpList_load_row rfl 28 _ rfl (w.heap.size) rfl 28 _ (0,0) _ HX.out Try.underlying28 rfl (by kernel_rfl) ?_)
   | (go_at_call 26;go_must (refine (tooGreat_calls t p W (below_all HIN.out HB.out)).mono ?_;rintro e w1 ⟨rfl,hb⟩;rw [HG1.out];have HB1:=Ak (below_then HB.out HB.out.size hb);have HX1:=Ak ((hb.block _ (blk_lt HX.out)).trans HX.out);have HY1:=Ak ((hb.block _ (blk_lt HY.out)).trans HY.out);obtain ⟨y0,y1,y2,y3,y4,y5,y6,y7⟩:=row8 HY1.out;clear hb)))
  refine al2_region w1 w1.heap.size w.heap.size p t (w.heap.size+1) q u true gb (Nat.le_refl _) HX1.out (below_all HIN.out HB1.out) HY1.out (below_all HIN2.out HB1.out) HG1.out HG2.out ?_
  intro w4 hch
  have HB4:=Ak (below_then HB1.out HB1.out.size (hch.below (fun _ h=>h.elim False.elim False.elim) (Nat.le_refl _)))
  clear hch
  go_wp2
  go_ret
  rw [HE2.out]
  exact ⟨rfl,HB4.out⟩
 | false =>
  cases gb with
  | true =>
   have HE2:=Ak (show alikeT t u=(false == true) by rw [HE.out];simp)
   go_upto_region 2 with (first
    | (refine wpList_load_row rfl 28 _ rfl (w.heap.size) rfl 28 _ (0,0) _ HX.out Try.underlying28 rfl (by kernel_rfl) ?_)
    | (have hgd:=HB1;clear hgd;go_at_call 26;go_must (refine (tooGreat_calls u q w1 (below_all HIN2.out HB1.out)).mono ?_;rintro e w2 ⟨rfl,hb⟩;rw [HG2.out];have HB2:=Ak (below_then HB1.out HB1.out.size hb);have HX2:=Ak ((hb.block _ (blk_lt HX1.out)).trans HX1.out);have HY2:=Ak ((hb.block _ (blk_lt HY1.out)).trans HY1.out);obtain ⟨a0,a1,a2,a3,a4,a5,a6,a7⟩:=row8 HX2.out;obtain ⟨z0,z1,z2,z3,z4,z5,z6,z7⟩:=row8 HY2.out;clear hb))
    | (go_at_call 26;go_must (refine (tooGreat_calls t p W (below_all HIN.out HB.out)).mono ?_;rintro e w1 ⟨rfl,hb⟩;rw [HG1.out];have HB1:=Ak (below_then HB.out HB.out.size hb);have HX1:=Ak ((hb.block _ (blk_lt HX.out)).trans HX.out);have HY1:=Ak ((hb.block _ (blk_lt HY.out)).trans HY.out);obtain ⟨y0,y1,y2,y3,y4,y5,y6,y7⟩:=row8 HY1.out;clear hb)))
   refine al2_region w2 w2.heap.size w.heap.size p t (w.heap.size+1) q u false true (Nat.le_refl _) HX2.out (below_all HIN.out HB2.out) HY2.out (below_all HIN2.out HB2.out) HG1.out HG2.out ?_
   intro w4 hch
   have HB4:=Ak (below_then HB2.out HB2.out.size (hch.below (fun _ h=>h.elim False.elim False.elim) (Nat.le_refl _)))
   clear hch
   go_wp2
   go_ret
   rw [HE2.out]
   exact ⟨rfl,HB4.out⟩
  | false =>
   have HE2:=Ak (show alikeT t u=nearT t u by rw [HE.out];simp)
   have HCM:=Ak (HOK.out rfl rfl)
   go_wp2_with (first
    | (refine wpList_load_row rfl 28 _ rfl (w.heap.size) rfl 28 _ (0,0) _ HX.out Try.underlying28 rfl (by kernel_rfl) ?_)
    | (go_at_call 68;go_must (refine (near_calls _ t (Nat.lt_succ_self _) u p q w2 HCM.out (below_all HIN.out HB2.out) (below_all HIN2.out HB2.out)).mono ?_;rintro e w3 ⟨rfl,hb⟩;have HB3:=Ak (below_then HB2.out HB2.out.size hb);clear hb))
    | (have hgd:=HB1;clear hgd;go_at_call 26;go_must (refine (tooGreat_calls u q w1 (below_all HIN2.out HB1.out)).mono ?_;rintro e w2 ⟨rfl,hb⟩;rw [HG2.out];have HB2:=Ak (below_then HB1.out HB1.out.size hb);have HX2:=Ak ((hb.block _ (blk_lt HX1.out)).trans HX1.out);have HY2:=Ak ((hb.block _ (blk_lt HY1.out)).trans HY1.out);obtain ⟨a0,a1,a2,a3,a4,a5,a6,a7⟩:=row8 HX2.out;obtain ⟨z0,z1,z2,z3,z4,z5,z6,z7⟩:=row8 HY2.out;clear hb))
    | (go_at_call 26;go_must (refine (tooGreat_calls t p W (below_all HIN.out HB.out)).mono ?_;rintro e w1 ⟨rfl,hb⟩;rw [HG1.out];have HB1:=Ak (below_then HB.out HB.out.size hb);have HX1:=Ak ((hb.block _ (blk_lt HX.out)).trans HX.out);have HY1:=Ak ((hb.block _ (blk_lt HY.out)).trans HY.out);obtain ⟨y0,y1,y2,y3,y4,y5,y6,y7⟩:=row8 HY1.out;clear hb)))
   go_ret
   rw [HE2.out]
   exact ⟨rfl,HB3.out⟩
end Go.Proofs.Ytdboloabpjmgaaa

namespace Go.Proofs.Ytdboloabpjmgaaa
open Go.RowKit Go.Proofs.YtdboloabpjmgaaaW.PrintWords Go.RegionInvYtdboloabpjmgaaa Go.ChangeShapes Go.WideShapes Go.Deep

instance:Inhabited Lv:=⟨.mk 0 0 []⟩
end Go.Proofs.Ytdboloabpjmgaaa

namespace Go.Proofs.Ytdboloabpjmgaaa
open Go.RowKit Go.Proofs.YtdboloabpjmgaaaW.PrintWords Go.RegionInvYtdboloabpjmgaaa Go.ChangeShapes Go.WideShapes Go.Deep

section
variable {H:Type} {enc:TypeId × Value→H} {W:World} {base:Nat} {sp:Nat→Bool} {held:Bool}
def Sized (t:TypeId) (d:DataW H):Prop:=(DataW.weights Try.prog t d).all (·≤reachBytes)=true
theorem all_at {t:TypeId}:∀ {l:List (DataW H)},(DataW.weightsAll Try.prog t l).all (·≤reachBytes)=true→∀ (i:Nat) (d:DataW H),l[i]?=some d→Sized t d
 | [],_,i,d,h=>by simp at h
 | x :: r,hw,i,d,h=>by
  rw [DataW.weightsAll,List.all_append,Bool.and_eq_true] at hw
  cases i with
  | zero=>simp at h;subst h;exact hw.1
  | succ j=>exact all_at hw.2 j d (by simpa using h)
theorem each_at:∀ {ts:List TypeId} {l:List (DataW H)},(DataW.weightsEach Try.prog ts l).all (·≤reachBytes)=true→∀ (i:Nat) (t:TypeId) (d:DataW H),ts[i]?=some t→l[i]?=some d→Sized t d
 | [],l,_,i,t,d,h,_=>by simp at h
 | _ :: _,[],_,i,t,d,_,h=>by simp at h
 | s :: ts,x :: r,hw,i,t,d,ht,hd=>by
  rw [DataW.weightsEach,List.all_append,Bool.and_eq_true] at hw
  cases i with
  | zero=>simp at ht hd;subst ht;subst hd;exact hw.1
  | succ j=>exact each_at hw.2 j t d (by simpa using ht) (by simpa using hd)
theorem sized_agg {t:TypeId} {fs:Array Field} {ps:List (DataW H)} (hu:Try.prog.underlying t=some (.struct fs)) (h:Sized t (.agg ps)):∀ (i:Nat) (f:Field) (d:DataW H),fs[i]?=some f→ps[i]?=some d→Sized f.type d:=by
 unfold Sized at h
 rw [DataW.weights,hu] at h
 intro i f d hf hd
 exact each_at h i f.type d (by simp [hf]) hd
theorem sized_slices {t e:TypeId} {es rs:List (DataW H)} (hu:Try.prog.underlying t=some (.slice e)) (h:Sized t (.slice es rs)):(es.length+rs.length) * Try.prog.bytesOf e≤140737488351232∧∀ (i:Nat) (d:DataW H),es[i]?=some d→Sized e d:=by
 unfold Sized at h
 rw [DataW.weights,hu] at h
 simp only [List.all_cons,List.all_append,Bool.and_eq_true,decide_eq_true_eq] at h
 exact ⟨h.1,fun i d hd=>all_at h.2.1 i d hd⟩
theorem sized_str {t:TypeId} {s:List UInt8} (h:Sized (H:=H) t (.lit (.string s))):s.length≤140737488351232:=by
 unfold Sized at h
 rw [DataW.weights] at h
 have h':s.length≤reachBytes:=by simpa using h
 exact h'
theorem lvs_len {fuel:Nat} {v:Value} {y:DataW H × List MemPlace} (g:DataW.trod enc Try.prog W base sp held fuel 23 [v]=some y) (hw:Sized 23 y.1) {A:Option Addr} {n c:Nat} (he:v=.slice A n c):n * 40≤140737488355328:=by
 subst he
 rcases DataW.trod_slice Try.underlying23 g with ⟨e2,_⟩ | ⟨a,len,cap,elems,rest,n',hn',e2,hy,_,hle,hm,hlen,hel,_,_⟩
 ·have:n=0:=by simp at e2;exact e2.2.1
  omega
 ·have:n=len:=by simp at e2;exact e2.2.1
  subst this
  subst hy
  have h:=(sized_slices Try.underlying23 hw).1
  rw [show Try.prog.bytesOf 25=40 by kernel_rfl] at h
  simp only [List.length_map] at h
  have:=Nat.le_mul_of_pos_right elems.length (show 0<40 by decide)
  have h2:n * 40≤(elems.length+rest.length) * 40:=Nat.mul_le_mul_right _ (by omega)
  omega
theorem plain_addr {a:Addr} {v:Value} (h:W.cell? a=some v):a.spot=none:=by
 cases hs:a.spot with
 | none=>rfl
 | some z=>simp [World.cell?,hs] at h;split at h <;> simp at h
theorem int_range {n:Int} (h:(Lit.int .i64 n).wf=true):-9223372036854775808≤n∧n≤9223372036854775807:=by simpa [Lit.wf,IntKind.min,IntKind.max,IntKind.signed,IntKind.bits] using h
end
end Go.Proofs.Ytdboloabpjmgaaa

namespace Go.Proofs.Ytdboloabpjmgaaa
open Go.RowKit Go.Proofs.YtdboloabpjmgaaaW.PrintWords Go.RegionInvYtdboloabpjmgaaa Go.ChangeShapes Go.WideShapes Go.Deep

inductive TmM:Tm→Prop
 | mk {k n:Int} {nm:ByteArray} {lv:Lv} {ls:List Lv} {ks:List Tm} (hl:LvM mostRow lv) (hs:∀ x∈ls,LvM mostRow x) (hk:∀ x∈ks,TmM x):TmM (.mk k n nm lv ls ks)
theorem range_all {α:Type} {n:Nat} {f:Nat→α} {P:α→Prop} (h:∀ i,i<n→P (f i)):∀ x∈(List.range n).map f,P x:=by
 intro x hx
 obtain ⟨i,hi,rfl⟩:=List.mem_map.1 hx
 exact h i (List.mem_range.1 hi)
section
variable {H:Type} {enc:TypeId × Value→H} {W:World} {base:Nat} {sp:Nat→Bool} {held:Bool}
theorem row_le {es rs:List (DataW H)} (h:Sized (H:=H) 23 (.slice es rs)) {n:Nat} (hn:n≤es.length):n≤mostRow:=by
 have h1:=(sized_slices Try.underlying23 h).1
 rw [show Try.prog.bytesOf 25=40 by kernel_rfl] at h1
 have h2:n * 40≤(es.length+rs.length) * 40:=Nat.mul_le_mul_right _ (by omega)
 show n≤8796093022208
 omega
set_option maxRecDepth 100000 in
theorem lv_openM (F:Nat):∀ (fuel:Nat),fuel≤F→∀ (cs:List Value) (x:DataW H × List MemPlace),
  DataW.trod enc Try.prog W base sp held fuel 25 cs=some x→Sized 25 x.1→∃ (l:Lv) (A:Option Addr) (c:Nat),cs=[.int .i64 l.kind,.int .i64 l.num,.slice A l.kids.length c]∧LvS W (fun _=>True) A c l∧(Lit.int .i64 l.kind).wf=true∧(Lit.int .i64 l.num).wf=true∧LvM mostRow l:=by
 induction F with
 | zero =>
  intro fuel hF cs x h
  obtain ⟨xs,n,hn,_⟩:=DataW.trod_struct Try.underlying25 h
  omega
 | succ F ih =>
  intro fuel hF cs x h hw
  obtain ⟨xs,n,hn,hx,hl,hxl,hf⟩:=DataW.trod_struct Try.underlying25 h
  have hl3:cs.length=3:=by rw [hl];kernel_rfl
  match xs,hxl,cs,hl3 with
  | [y0,y1,y2],_,[v0,v1,v2],_ =>
   subst hx
   have g0:DataW.trod enc Try.prog W base sp held n 3 [v0]=some y0:=hf 0 _ rfl
   have g1:DataW.trod enc Try.prog W base sp held n 3 [v1]=some y1:=hf 1 _ rfl
   have g2:DataW.trod enc Try.prog W base sp held n 23 [v2]=some y2:=hf 2 _ rfl
   have z2:Sized 23 y2.1:=sized_agg Try.underlying25 hw 2 _ _ rfl rfl
   obtain ⟨k,e0,_,w0⟩:=DataW.trod_int Try.underlying3 g0
   obtain ⟨m,e1,_,w1⟩:=DataW.trod_int Try.underlying3 g1
   obtain rfl:v0=.int .i64 k:=by simpa using e0
   obtain rfl:v1=.int .i64 m:=by simpa using e1
   rcases DataW.trod_slice Try.underlying23 g2 with ⟨e2,_⟩ | ⟨a,len,cap,elems,rest,n',hn',e2,hy,_,hle,hm,hlen,hel,_,_⟩
   ·obtain rfl:v2=.slice none 0 0:=by simpa using e2
    exact ⟨.mk k m [],none,0,rfl,.mk (fun _=>none) (fun _=>0) (by simp) (by omega) (fun i x hx=>by simp at hx) (fun i x hx=>by simp at hx),w0,w1,.mk (by simp) (fun x hx=>by simp at hx)⟩
   ·obtain rfl:v2=.slice (some a) len cap:=by simpa using e2
    subst hy
    have hz:=(sized_slices Try.underlying23 z2).2
    have hlr:=row_le z2 (n:=len) (by simp;omega)
    have hc3:Try.prog.cellsOf 25=3:=by kernel_rfl
    rw [hc3] at hel
    have each:∀ i,i<len→∃ q:Lv × Option Addr × Nat,W.cells? base (a.add (i * 3)) 3=some [.int .i64 q.1.kind,.int .i64 q.1.num,.slice q.2.1 q.1.kids.length q.2.2]∧LvS W (fun _=>True) q.2.1 q.2.2 q.1∧LvM mostRow q.1:=by
     intro i hi
     have hq:=hel i hi
     rw [List.getElem?_eq_getElem (by omega)] at hq
     obtain ⟨cs',h1,h2⟩:=Option.bind_eq_some_iff.1 hq
     obtain ⟨l,A,c,rfl,h3,_,_,h4⟩:=ih n' (by omega) cs' _ h2 (hz i _ (by rw [List.getElem?_map,List.getElem?_eq_getElem (by omega)];rfl))
     exact ⟨(l,A,c),h1,h3,h4⟩
    obtain ⟨q,hq⟩:=choose_lt each
    have hcell:∀ i,i<len→∀ j,j<3→W.cell? ((a.add (i * 3)).add j)=([.int .i64 (q i).1.kind,.int .i64 (q i).1.num,.slice (q i).2.1 (q i).1.kids.length (q i).2.2]:List Value)[j]?:=fun i hi j hj=>(World.cells?_some (hq i hi).1).2.2 j hj
    have hget:∀ (i:Nat) (x:Lv),((List.range len).map fun i=>(q i).1)[i]?=some x→i<len∧x=(q i).1:=by
     intro i x hx
     have hi:i<len:=by
      rcases Nat.lt_or_ge i len with h | h
      ·exact h
      ·rw [List.getElem?_eq_none (by simpa using h)] at hx;cases hx
     rw [List.getElem?_map,List.getElem?_range hi] at hx
     exact ⟨hi,(Option.some.inj hx).symm⟩
    refine ⟨.mk k m ((List.range len).map fun i=>(q i).1),some a,cap,by simp [Lv.kind,Lv.num,Lv.kids],.mk (fun i=>(q i).2.1) (fun i=>(q i).2.2) (by simpa using hle) (by simp only [maxLen] at hm;omega) (fun i x hx=>?_) (fun i x hx=>?_),w0,w1,.mk (by simpa using hlr) (range_all fun i hi=>(hq i hi).2.2)⟩
    ·obtain ⟨hi,rfl⟩:=hget i x hx
     have hsp:a.spot=none:=by
      have h0:=hcell 0 (by omega) 0 (by omega)
      simp only [Nat.zero_mul,Addr.add,if_true] at h0
      cases hs:a.spot with
      | none=>rfl
      | some z=>simp [World.cell?,hs] at h0;split at h0 <;> simp at h0
     obtain ⟨b,o,z⟩:=a
     obtain rfl:z=none:=hsp
     have c0:=hcell i hi 0 (by omega)
     have c1:=hcell i hi 1 (by omega)
     have c2:=hcell i hi 2 (by omega)
     simp only [add_flat] at c0 c1 c2
     exact ⟨_,rfl,trivial,rfl,by rw [add_flat];exact c0,by rw [add_flat];exact c1,by rw [add_flat];exact c2⟩
    ·obtain ⟨hi,rfl⟩:=hget i x hx
     exact (hq i hi).2.1
set_option maxRecDepth 100000 in
theorem lvs_openM {fuel:Nat} {v2:Value} {y2:DataW H × List MemPlace} (g2:DataW.trod enc Try.prog W base sp held fuel 23 [v2]=some y2) (z2:Sized 23 y2.1) :
  ∃ (vs:List Lv) (A:Option Addr) (c:Nat),v2=.slice A vs.length c∧LvS W (fun _=>True) A c (.mk 0 0 vs)∧∀ x∈vs,LvM mostRow x:=by
 rcases DataW.trod_slice Try.underlying23 g2 with ⟨e2,_⟩ | ⟨a,len,cap,elems,rest,n',hn',e2,hy,_,hle,hm,hlen,hel,_,_⟩
 ·obtain rfl:v2=.slice none 0 0:=by simpa using e2
  exact ⟨[],none,0,rfl,.mk (fun _=>none) (fun _=>0) (by simp) (by omega) (fun i x hx=>by simp at hx) (fun i x hx=>by simp at hx),fun x hx=>by simp at hx⟩
 ·obtain rfl:v2=.slice (some a) len cap:=by simpa using e2
  subst hy
  have hz:=(sized_slices Try.underlying23 z2).2
  have hc3:Try.prog.cellsOf 25=3:=by kernel_rfl
  rw [hc3] at hel
  have each:∀ i,i<len→∃ q:Lv × Option Addr × Nat,W.cells? base (a.add (i * 3)) 3=some [.int .i64 q.1.kind,.int .i64 q.1.num,.slice q.2.1 q.1.kids.length q.2.2]∧LvS W (fun _=>True) q.2.1 q.2.2 q.1∧LvM mostRow q.1:=by
   intro i hi
   have hq:=hel i hi
   rw [List.getElem?_eq_getElem (by omega)] at hq
   obtain ⟨cs',h1,h2⟩:=Option.bind_eq_some_iff.1 hq
   obtain ⟨l,A,c,rfl,h3,_,_,h4⟩:=lv_openM n' n' (Nat.le_refl _) cs' _ h2 (hz i _ (by rw [List.getElem?_map,List.getElem?_eq_getElem (by omega)];rfl))
   exact ⟨(l,A,c),h1,h3,h4⟩
  obtain ⟨q,hq⟩:=choose_lt each
  have hcell:∀ i,i<len→∀ j,j<3→W.cell? ((a.add (i * 3)).add j)=([.int .i64 (q i).1.kind,.int .i64 (q i).1.num,.slice (q i).2.1 (q i).1.kids.length (q i).2.2]:List Value)[j]?:=fun i hi j hj=>(World.cells?_some (hq i hi).1).2.2 j hj
  have hget:∀ (i:Nat) (x:Lv),((List.range len).map fun i=>(q i).1)[i]?=some x→i<len∧x=(q i).1:=by
   intro i x hx
   have hi:i<len:=by
    rcases Nat.lt_or_ge i len with h | h
    ·exact h
    ·rw [List.getElem?_eq_none (by simpa using h)] at hx;cases hx
   rw [List.getElem?_map,List.getElem?_range hi] at hx
   exact ⟨hi,(Option.some.inj hx).symm⟩
  refine ⟨(List.range len).map fun i=>(q i).1,some a,cap,by simp,.mk (fun i=>(q i).2.1) (fun i=>(q i).2.2) (by simpa using hle) (by simp only [maxLen] at hm;omega) (fun i x hx=>?_) (fun i x hx=>?_),range_all fun i hi=>(hq i hi).2.2⟩
  ·obtain ⟨hi,rfl⟩:=hget i x hx
   have hsp:a.spot=none:=by
    have h0:=hcell 0 (by omega) 0 (by omega)
    simp only [Nat.zero_mul,Addr.add,if_true] at h0
    cases hs:a.spot with
    | none=>rfl
    | some z=>simp [World.cell?,hs] at h0;split at h0 <;> simp at h0
   obtain ⟨b,o,z⟩:=a
   obtain rfl:z=none:=hsp
   have c0:=hcell i hi 0 (by omega)
   have c1:=hcell i hi 1 (by omega)
   have c2:=hcell i hi 2 (by omega)
   simp only [add_flat] at c0 c1 c2
   exact ⟨_,rfl,trivial,rfl,by rw [add_flat];exact c0,by rw [add_flat];exact c1,by rw [add_flat];exact c2⟩
  ·obtain ⟨hi,rfl⟩:=hget i x hx
   exact (hq i hi).2.1
set_option maxRecDepth 100000 in
set_option maxHeartbeats 4000000 in
theorem tm_openM (F:Nat):∀ (fuel:Nat),fuel≤F→∀ (cs:List Value) (x:DataW H × List MemPlace),DataW.trod enc Try.prog W base sp held fuel 28 cs=some x→Sized 28 x.1 →
  ∃ (t:Tm) (p:Pl),cs=tmC p t∧TmS W (fun _=>True) p t∧TmM t:=by
 induction F with
 | zero =>
  intro fuel hF cs x h
  obtain ⟨xs,n,hn,_⟩:=DataW.trod_struct Try.underlying28 h
  omega
 | succ F ih =>
  intro fuel hF cs x h hw
  obtain ⟨xs,n,hn,hx,hl,hxl,hf⟩:=DataW.trod_struct Try.underlying28 h
  have hl8:cs.length=8:=by rw [hl];kernel_rfl
  match xs,hxl,cs,hl8 with
  | [y0,y1,y2,y3,y4,y5],_,[v0,v1,v2,v3,v4,v5,v6,v7],_ =>
   subst hx
   have g0:DataW.trod enc Try.prog W base sp held n 3 [v0]=some y0:=hf 0 _ rfl
   have g1:DataW.trod enc Try.prog W base sp held n 3 [v1]=some y1:=hf 1 _ rfl
   have g2:DataW.trod enc Try.prog W base sp held n 9 [v2]=some y2:=hf 2 _ rfl
   have g3:DataW.trod enc Try.prog W base sp held n 25 [v3,v4,v5]=some y3:=hf 3 _ rfl
   have g4:DataW.trod enc Try.prog W base sp held n 23 [v6]=some y4:=hf 4 _ rfl
   have g5:DataW.trod enc Try.prog W base sp held n 26 [v7]=some y5:=hf 5 _ rfl
   have z2:Sized 9 y2.1:=sized_agg Try.underlying28 hw 2 _ _ rfl rfl
   have z3:Sized 25 y3.1:=sized_agg Try.underlying28 hw 3 _ _ rfl rfl
   have z4:Sized 23 y4.1:=sized_agg Try.underlying28 hw 4 _ _ rfl rfl
   have z5:Sized 26 y5.1:=sized_agg Try.underlying28 hw 5 _ _ rfl rfl
   obtain ⟨k,e0,_,w0⟩:=DataW.trod_int Try.underlying3 g0
   obtain ⟨m,e1,_,w1⟩:=DataW.trod_int Try.underlying3 g1
   obtain ⟨s,e2,e2',_⟩:=DataW.trod_string Try.underlying9 g2
   obtain rfl:v0=.int .i64 k:=by simpa using e0
   obtain rfl:v1=.int .i64 m:=by simpa using e1
   obtain rfl:v2=.string s:=by simpa using e2
   have hs:s.size≤140737488355328:=by
    rw [e2'] at z2
    have:=sized_str z2
    simp at this
    have e:s.size=s.data.size:=rfl
    omega
   obtain ⟨l,A,c,e3,hlv,_,_,hlm⟩:=lv_openM n n (Nat.le_refl _) _ _ g3 z3
   obtain ⟨ls,B,d,rfl,hls,hlsm⟩:=lvs_openM g4 z4
   have hll:=lvs_len g4 z4 rfl
   obtain ⟨rfl,rfl,rfl⟩:v3=.int .i64 l.kind∧v4=.int .i64 l.num∧v5=.slice A l.kids.length c:=by simpa using e3
   have hfit:Fit m s ls:=⟨int_range w1,hs,hll⟩
   rcases DataW.trod_slice Try.underlying26 g5 with ⟨e5,_⟩ | ⟨a,len,cap,elems,rest,n',hn',e5,hy,_,hle,hm,hlen,hel,_,_⟩
   ·obtain rfl:v7=.slice none 0 0:=by simpa using e5
    exact ⟨.mk k m s l ls [],⟨A,c,B,d,none,0⟩,rfl,.mk (fun _=>default) hlv hls (by simp) (by simp) hfit (fun i x hx=>by simp at hx) (fun i x hx=>by simp at hx),.mk hlm hlsm (fun x hx=>by simp at hx)⟩
   ·obtain rfl:v7=.slice (some a) len cap:=by simpa using e5
    subst hy
    have hz:=(sized_slices Try.underlying26 z5).2
    have hc8:Try.prog.cellsOf 28=8:=by kernel_rfl
    rw [hc8] at hel
    have each:∀ i,i<len→∃ q:Tm × Pl,W.cells? base (a.add (i * 8)) 8=some (tmC q.2 q.1)∧TmS W (fun _=>True) q.2 q.1∧TmM q.1:=by
     intro i hi
     have hq:=hel i hi
     rw [List.getElem?_eq_getElem (by omega)] at hq
     obtain ⟨cs',h1,h2⟩:=Option.bind_eq_some_iff.1 hq
     obtain ⟨t,p,rfl,h3,h4⟩:=ih n' (by omega) cs' _ h2 (hz i _ (by rw [List.getElem?_map,List.getElem?_eq_getElem (by omega)];rfl))
     exact ⟨(t,p),h1,h3,h4⟩
    obtain ⟨q,hq⟩:=choose_lt each
    have hcell:∀ i,i<len→∀ j,j<8→W.cell? ((a.add (i * 8)).add j)=(tmC (q i).2 (q i).1)[j]?:=fun i hi j hj=>(World.cells?_some (hq i hi).1).2.2 j hj
    have hget:∀ (i:Nat) (x:Tm),((List.range len).map fun i=>(q i).1)[i]?=some x→i<len∧x=(q i).1:=by
     intro i x hx
     have hi:i<len:=by
      rcases Nat.lt_or_ge i len with h | h
      ·exact h
      ·rw [List.getElem?_eq_none (by simpa using h)] at hx;cases hx
     rw [List.getElem?_map,List.getElem?_range hi] at hx
     exact ⟨hi,(Option.some.inj hx).symm⟩
    refine ⟨.mk k m s l ls ((List.range len).map fun i=>(q i).1),⟨A,c,B,d,some a,cap⟩,by simp [tmC,Tm.kind,Tm.num,Tm.name,Tm.lv,Tm.ls,Tm.kids],.mk (fun i=>(q i).2) hlv hls (by simpa using hle) (by simp only [maxLen] at hm;exact hm) hfit (fun i x hx=>?_) (fun i x hx=>?_),.mk hlm hlsm (range_all fun i hi=>(hq i hi).2.2)⟩
    ·obtain ⟨hi,rfl⟩:=hget i x hx
     have h0:=hcell 0 (by omega) 0 (by omega)
     simp only [Nat.zero_mul,Addr.add,if_true] at h0
     have hsp:a.spot=none:=plain_addr (h0.trans (by rfl))
     obtain ⟨b,o,z⟩:=a
     obtain rfl:z=none:=hsp
     refine ⟨b,o,rfl,trivial,fun j v hv=>?_⟩
     have hj:j<8:=by
      rcases Nat.lt_or_ge j 8 with h | h
      ·exact h
      ·rw [List.getElem?_eq_none (by rw [tmC_len];exact h)] at hv;cases hv
     have c0:=hcell i hi j hj
     simp only [add_flat] at c0
     rw [c0]
     exact hv
    ·obtain ⟨hi,rfl⟩:=hget i x hx
     exact (hq i hi).2.1
set_option maxRecDepth 100000 in
theorem tm_inM {v:Value} {d:DataW H} {ps:List MemPlace} {r:Reach} {b0:Nat} (hv:Value.okWide Try.prog W r b0 28 v) (h:DataW.Trod enc Try.prog W base sp held 28 v d ps) (hw:Sized 28 d) :
  ∃ (t:Tm) (p:Pl),v=tmV p t∧TmS W (fun _=>True) p t∧TmM t:=by
 obtain ⟨cs,rfl,hcs⟩:=okWide_struct Try.underlying28 hv
 obtain ⟨fuel,hf⟩:=h
 obtain ⟨t,p,he,ht⟩:=tm_openM fuel fuel (Nat.le_refl _) _ _ hf hw
 refine ⟨t,p,?_,ht⟩
 unfold tmV
 congr 1
 apply Array.toList_inj.1
 simpa [Value.cells,tmC] using he

set_option maxRecDepth 100000 in
theorem lvs_inM {v:Value} {d:DataW H} {ps:List MemPlace} {r:Reach} {b0:Nat} (hv:Value.okWide Try.prog W r b0 23 v) (h:DataW.Trod enc Try.prog W base sp held 23 v d ps) (hw:Sized 23 d) :
  ∃ (vs:List Lv) (A:Option Addr) (c n:Nat),v=.slice A n c∧n=vs.length∧LvS W (fun _=>True) A c (.mk 0 0 vs)∧(∀ x∈vs,LvM mostRow x)∧n * 40≤140737488355328:=by
 obtain ⟨a,len,cap,rfl⟩:=okWide_slice Try.underlying23 hv
 obtain ⟨fuel,hf⟩:=h
 obtain ⟨vs,A,c,he,hl,hm⟩:=lvs_openM (v2:=.slice a len cap) hf hw
 have h40:=lvs_len hf hw he
 exact ⟨vs,A,c,_,he,rfl,hl,hm,h40⟩
end
end Go.Proofs.Ytdboloabpjmgaaa

namespace Go.Proofs.Ytdboloabpjmgaaa
open Go.RowKit Go.Proofs.YtdboloabpjmgaaaW.PrintWords Go.RegionInvYtdboloabpjmgaaa Go.RegionEYtdboloabpjmgaaa

theorem sim_cp (N:Nat):∀ (l:Lv),SizeOf.sizeOf l<N→simB (cpP l) l=true:=by
 induction N with
 | zero=>intro l h;omega
 | succ N ih =>
  rintro ⟨k,n,ks⟩ hN
  rw [cpP,cpKs_map,sim_ok (k:=k) (n:=if k=4 then 0 else n) (ks:=ks.map cpP) (l:=.mk k n ks) ⟨rfl,?_,by simp [Lv.kids]⟩]
  ·refine simKs_all (by simp [Lv.kids]) fun i x y h1 h2=>?_
   rw [List.getElem?_map] at h1
   have h2':ks[i]?=some y:=h2
   rw [h2'] at h1
   obtain rfl:cpP y=x:=by simpa using h1
   exact ih y (Nat.lt_of_lt_of_le (kid_small h2') (Nat.le_of_lt_succ hN))
  ·by_cases h:k=4
   ·exact .inl h
   ·right;show (if k=4 then 0 else n)=n;rw [if_neg h]
theorem sl_ow (l:Lv):slB (owP l) l=true:=by
 unfold slB
 cases hs:soundB l with
 | false=>simp
 | true=>rw [owP_sound hs,sim_cp _ l (Nat.lt_succ_self _)];rfl
theorem cp_m (M N:Nat):∀ (l:Lv),SizeOf.sizeOf l<N→LvM M l→LvM M (cpP l):=by
 induction N with
 | zero=>intro l h;omega
 | succ N ih =>
  rintro ⟨k,n,ks⟩ hN hm
  rw [cpP,cpKs_map]
  refine .mk (by rw [List.length_map];exact hm.len) fun x hx=>?_
  obtain ⟨y,hy,rfl⟩:=List.mem_map.1 hx
  refine ih y ?_ (hm.kid y hy)
  have:=List.sizeOf_lt_of_mem hy
  have e:=Lv.mk.sizeOf_spec k n ks
  omega
theorem ow_m {l:Lv} (h:LvM mostRow l):LvM mostRow (owP l):=by
 unfold owP
 split
 ·exact cp_m mostRow _ l (Nat.lt_succ_self _) h
 ·exact h
theorem lvM_zero:LvM mostRow lv0:=.mk (Nat.zero_le _) (fun x h=>by simp at h)
theorem TmM.lv {t:Tm} (h:TmM t):LvM mostRow t.lv:=by cases h;assumption
theorem TmM.ls {t:Tm} (h:TmM t):∀ x∈t.ls,LvM mostRow x:=by cases h;assumption
theorem TmM.kid {t:Tm} (h:TmM t):∀ x∈t.kids,TmM x:=by cases h;assumption
theorem TmM.kidF {t:Tm} (h:TmM t) (i:Fin (nK t)):TmM (kidF t i):=h.kid _ (List.getElem_mem _)
theorem TmM.cmp (N:Nat):∀ (t:Tm),SizeOf.sizeOf t<N→TmM t→∀ u,CmpOk t u:=by
 induction N with
 | zero=>intro t h;omega
 | succ N ih =>
  intro t hN h u
  exact .mk (fun _=>h.lv) (fun _ i x y hx _=>h.ls x (List.mem_of_getElem? hx)) (fun i=>ih _ (by have:=kidF_lt t i;omega) (h.kidF i) _)
theorem node_m {t:Tm} (h:TmM t):TmM (nodeP t):=by
 unfold nodeP
 refine .mk ?_ ?_ (fun x h=>by simp at h)
 ·split
  ·exact ow_m h.lv
  ·exact lvM_zero
 ·split
  ·intro x hx
   obtain ⟨y,hy,rfl⟩:=List.mem_map.1 hx
   exact ow_m (h.ls y hy)
  ·intro x hx;simp at hx
theorem var_m (n:Int):TmM (varT n):=.mk lvM_zero (fun x h=>by simp at h) (fun x h=>by simp at h)
theorem reb_m (F:Tm→Int→Tm) (N:Nat):∀ (t:Tm),SizeOf.sizeOf t<N→∀ b,(∀ x e,leafT x=true→TmM x→TmM (F x e))→TmM t→TmM (rebP F t b):=by
 induction N with
 | zero=>intro t h;omega
 | succ N ih =>
  intro t hN b hF hm
  cases hl:leafT t with
  | true=>rw [reb_leaf hl];exact hF t b hl hm
  | false =>
   rw [reb_node hl]
   refine .mk lvM_zero (fun x h=>by simp at h) fun x hx=>?_
   obtain ⟨i,_,rfl⟩:=List.mem_map.1 hx
   exact ih _ (by have:=kidF_lt t i;omega) _ hF (hm.kidF i)
theorem zero_m:TmM zeroT:=.mk lvM_zero (fun x h=>by simp at h) (fun x h=>by simp at h)
theorem lift_m {v:Tm} (fr by_:Int) (h:TmM v):TmM (liftT fr by_ v):=by
 refine reb_m _ _ v (Nat.lt_succ_self _) 0 (fun x e _ hx=>?_) h
 unfold liftF
 split
 ·exact var_m _
 ·exact node_m hx
theorem inst_m {t v:Tm} (ht:TmM t) (hv:TmM v):TmM (InstT t v):=by
 unfold InstT
 split
 ·unfold fitT
  split
  ·refine reb_m _ _ t (Nat.lt_succ_self _) 0 (fun x e _ hx=>?_) ht
   unfold instF
   split
   ·exact lift_m _ _ hv
   ·split
    ·exact var_m _
    ·exact node_m hx
  ·exact zero_m
 ·exact zero_m
end Go.Proofs.Ytdboloabpjmgaaa

namespace Go.Proofs.Ytdboloabpjmgaaa
open Go.RowKit Go.Proofs.YtdboloabpjmgaaaW.PrintWords Go.RegionInvYtdboloabpjmgaaa Go.RegionEYtdboloabpjmgaaa

structure Nr (a b:Tm):Prop where
 near:nearT a b=true
 size:sizeT a=sizeT b
 depth:depthT a=depthT b
theorem near_node {a b:Tm} (ha:leafT a=false) (hb:leafT b=false) (hk:a.kind=b.kind) (h:∀ i (h1:i<nK a) (h2:i<nK b),nearT (kidF a ⟨i,h1⟩) (kidF b ⟨i,h2⟩)=true) (hn:nK a=nK b):nearT a b=true:=by
 rw [near_eq,hn_node ha hb hk,Bool.true_and,List.all_eq_true]
 intro i _
 have h2:i.1<nK b:=by have:=i.2;omega
 have e:b.kids.getD i.1 default=kidF b ⟨i.1,h2⟩:=by
  have:=kidF_get b ⟨i.1,h2⟩
  rw [List.getD_eq_getElem?_getD,this]
  rfl
 rw [e]
 exact h i.1 i.2 h2
theorem sum_eq {α:Type} (xs:List α) (f g:α→Nat) (h:∀ x∈xs,f x=g x):xs.map f=xs.map g:=List.map_congr_left h
theorem size_over (F:Tm→Int→Tm) {t:Tm} {b:Int} (hl:leafT t=false):sizeT (overT F t b)=1+((List.finRange (nK t)).map fun i=>sizeT (rebP F (kidF t i) (b+moreZ t i))).sum∧depthT (overT F t b)=1+((List.finRange (nK t)).map fun i=>depthT (rebP F (kidF t i) (b+moreZ t i))).foldr max 0:=by
 have hn:=over_nK (RF:=F) (b:=b) hl
 have key:∀ (f:Tm→Nat),((List.finRange (nK (overT F t b))).map fun i=>f (kidF (overT F t b) i))=((List.finRange (nK t)).map fun i=>f (rebP F (kidF t i) (b+moreZ t i))):=by
  intro f
  apply List.ext_getElem
  ·simp [hn]
  ·intro i h1 h2
   simp only [List.getElem_map,List.getElem_finRange]
   exact congrArg f (over_kid i _ _)
 refine ⟨?_,?_⟩
 ·rw [sizeT,key sizeT]
 ·rw [depthT,key depthT]
theorem reb_near (F G:Tm→Int→Tm) (N:Nat):∀ (t:Tm),SizeOf.sizeOf t<N→∀ b,0≤b→(∀ x e,leafT x=true→0≤e→Nr (F x e) (G x e))→Nr (rebP F t b) (rebP G t b):=by
 induction N with
 | zero=>intro t h;omega
 | succ N ih =>
  intro t hN b hb hF
  cases hl:leafT t with
  | true=>rw [reb_leaf hl,reb_leaf hl];exact hF t b hl hb
  | false =>
   have hi:∀ i:Fin (nK t),Nr (rebP F (kidF t i) (b+moreZ t i)) (rebP G (kidF t i) (b+moreZ t i)):=fun i=>ih _ (by have:=kidF_lt t i;omega) _ (by have:=moreZ_in t i;omega) hF
   rw [reb_over hl,reb_over hl]
   obtain ⟨s1,d1⟩:=size_over F (b:=b) hl
   obtain ⟨s2,d2⟩:=size_over G (b:=b) hl
   refine ⟨near_node (over_leaf hl) (over_leaf hl) rfl (fun i h1 h2=>?_) (by rw [over_nK hl,over_nK hl]),?_,?_⟩
   ·have h3:i<nK t:=by rw [over_nK hl] at h1;exact h1
    rw [over_kid i h1 h3,over_kid i h2 h3]
    exact (hi ⟨i,h3⟩).near
   ·rw [s1,s2,sum_eq _ _ _ fun i _=>(hi i).size]
   ·rw [d1,d2,sum_eq _ _ _ fun i _=>(hi i).depth]
theorem lvs_ow:∀ (ls:List Lv),lvsSl (ls.map owP) ls=true
 | []=>rfl
 | x :: r=>by
  show (slB (owP x) x && lvsSl (r.map owP) r)=true
  rw [sl_ow,lvs_ow r];rfl
theorem nK_nokids {t:Tm} (h:t.kids=[]) (_:True∨True):nK t=0:=by
 unfold nK
 split
 ·rfl
 ·rename_i hh
  rw [h] at hh
  simp only [List.length_nil] at hh
  omega
theorem nr_leaf {a b:Tm} (ha:a.kids=[]) (hb:b.kids=[]) (h:hnB a b=true):Nr a b:=
 ⟨by rw [near_leaf (decide_eq_true (nK_nokids ha (.inl trivial)))];exact h,by rw [size_leaf (nK_nokids ha (.inl trivial)),size_leaf (nK_nokids hb (.inl trivial))],by rw [depth_leaf (nK_nokids ha (.inl trivial)),depth_leaf (nK_nokids hb (.inl trivial))]⟩
theorem var_self (n:Int):Nr (varT n) (varT n):=nr_leaf rfl rfl (by
 unfold hnB
 show (decide ((1:Int)=1) && (leafR (varT n) == leafR (varT n)) && (leafR (varT n) || decide (n=n)))=true
 simp)
theorem leafR_none {t:Tm} (h:t.kids=[]):leafR t=decide (arZ t.kind≠0):=by
 unfold leafR
 rw [h]
 have:=arZ_in t.kind
 by_cases h0:arZ t.kind=0
 ·rw [h0];simp
 ·simp only [List.length_nil]
  rw [decide_eq_true (show arZ t.kind≠0 from h0)]
  exact decide_eq_true (by omega)
theorem node_bare (x:Tm):Nr (nodeP x) (bareG x):=by
 have hk:(bareG x).kind=x.kind:=by
  unfold bareG
  split
  ·rfl
  ·split
   ·rename_i h;exact h.symm
   ·split
    ·rename_i h;exact h.symm
    ·split
     ·rename_i h;exact h.symm
     ·rfl
 have hks:(bareG x).kids=[]:=by
  unfold bareG
  split
  ·rfl
  ·split
   ·rfl
   ·split
    ·rfl
    ·split <;> rfl
 refine nr_leaf rfl hks ?_
 have e1:leafR (nodeP x)=leafR (bareG x):=by rw [leafR_none rfl,leafR_none hks,hk];rfl
 unfold hnB
 rw [← e1,hk]
 show (decide (x.kind=x.kind) && (leafR (nodeP x) == leafR (nodeP x)) && (leafR (nodeP x) || (if x.kind=1 then decide ((if x.kind=1 then x.num else 0)=(bareG x).num) else if x.kind=2 then slB (if x.kind=2 then owP x.lv else .mk 0 0 []) (bareG x).lv else if x.kind=7 then ((if x.kind=7 then x.name else noName).toList == (bareG x).name.toList) && lvsSl (if x.kind=7 then x.ls.map owP else []) (bareG x).ls else true)))=true
 rw [decide_eq_true rfl]
 simp only [beq_self_eq_true,Bool.true_and]
 by_cases h1:x.kind=1
 ·have hl:leafR x=true∨leafR x=false:=by cases leafR x <;> simp
  have hr:leafR x=false:=by
   unfold leafR
   rw [h1,show arZ 1=0 from rfl]
   simp
  have:(bareG x).num=x.num:=by unfold bareG;rw [if_neg (by rw [hr];decide),if_pos h1];rfl
  rw [if_pos h1,if_pos h1,this];simp
 ·by_cases h2:x.kind=2
  ·rw [if_neg h1,if_pos h2,if_pos h2,bareG_2 (leafR_27 (.inl h2)) h2]
   show (_ || slB (owP x.lv) x.lv)=true
   rw [sl_ow];simp
  ·by_cases h7:x.kind=7
   ·rw [if_neg h1,if_neg h2,if_pos h7,if_pos h7,if_pos h7,bareG_7 (leafR_27 (.inr h7)) h7]
    show (_ || ((x.name.toList == x.name.toList) && lvsSl (x.ls.map owP) x.ls))=true
    rw [lvs_ow];simp
   ·rw [if_neg h1,if_neg h2,if_neg h7];simp
theorem bareG_1 {x:Tm} (h:x.kind=1):bareG x=varT x.num:=by
 have hr:leafR x=false:=by
  unfold leafR
  rw [h,show arZ 1=0 from rfl]
  simp
 unfold bareG
 rw [if_neg (by rw [hr];decide),if_pos h]
 rfl
theorem bareG_kd (x:Tm):(bareG x).kind=x.kind:=by
 unfold bareG
 split
 ·rfl
 ·split
  ·rename_i h;exact h.symm
  ·split
   ·rename_i h;exact h.symm
   ·split
    ·rename_i h;exact h.symm
    ·rfl
theorem bareG_kind {x:Tm} (h:¬ x.kind=1):¬ (bareG x).kind=1:=by rw [bareG_kd];exact h
theorem lift_nr (v:Tm) (e:Int) (he:0≤e):Nr (liftT 0 e v) (rebP (rlG 0 e) v 0):=by
 unfold liftT
 refine reb_near _ _ _ v (Nat.lt_succ_self _) 0 (Int.le_refl _) fun x b _ hb=>?_
 unfold rlG
 by_cases h1:x.kind=1
 ·rw [liftF_var h1,bareG_1 h1]
  have e2:lifL 0 e (varT x.num) b=varT (liftN 0 e x.num b):=by
   unfold lifL
   show (if (1:Int)=1∧0≤x.num∧0≤x.num - b then varT (if 0<e∧9223372036854775807 - e<x.num then 9223372036854775807 else max b (x.num+e)) else varT x.num)=_
   by_cases hc:x.num<b∨x.num - b<0
   ·rw [liftN_lo hc,if_neg (fun h=>by omega)]
   ·rw [if_pos ⟨rfl,by omega,by omega⟩]
    congr 1
    by_cases hp:0<e
    ·rw [liftN_up hc hp]
     by_cases ho:9223372036854775807 - e<x.num
     ·rw [if_pos ⟨hp,ho⟩];omega
     ·rw [if_neg (fun h=>ho h.2)];omega
    ·rw [liftN_dn hc hp,if_neg (fun h=>hp h.1)]
  rw [e2]
  exact var_self _
 ·rw [liftF_no h1,show lifL 0 e (bareG x) b=bareG x from if_neg (fun h=>bareG_kind h1 h.1)]
  exact node_bare x
theorem inst_nr (t v:Tm):Nr (rebP (instF v) t 0) (rebP (rpG v) t 0):=by
 refine reb_near _ _ _ t (Nat.lt_succ_self _) 0 (Int.le_refl _) fun x e _ he=>?_
 unfold rpG
 by_cases h1:x.kind=1
 ·rw [bareG_1 h1]
  unfold putL
  show Nr _ (if (1:Int)=1∧e≤x.num then if x.num=e then rebP (rlG 0 e) v 0 else varT (x.num - 1) else varT x.num)
  by_cases h2:x.num=e
  ·rw [instF_hit h1 h2,if_pos ⟨rfl,by omega⟩,if_pos h2]
   exact lift_nr v e he
  ·by_cases h3:e<x.num
   ·rw [instF_far h1 h3,if_pos ⟨rfl,by omega⟩,if_neg h2]
    exact var_self _
   ·rw [instF_near (by omega),if_neg (fun h=>by omega),nodeP_var h1]
    exact var_self _
 ·rw [instF_no h1,show putL v (bareG x) e=bareG x from if_neg (fun h=>bareG_kind h1 h.1)]
  exact node_bare x
theorem Nr.ok {a b:Tm} (h:Nr a b):okT a↔okT b:=by unfold okT;rw [h.size,h.depth]
theorem Nr.alike {a b:Tm} (h:Nr a b):alikeT a b=true:=by
 unfold alikeT
 by_cases ha:okT a
 ·rw [if_pos ⟨ha,h.ok.1 ha⟩];exact h.near
 ·have hb:¬ okT b:=fun k=>ha (h.ok.2 k)
  rw [if_neg (fun k=>ha k.1)]
  simp [ha,hb]
theorem zero_nr:Nr zeroT zeroT:=nr_leaf rfl rfl rfl
theorem inst_alike (t v:Tm):alikeT (InstT t v) (InstR t v)=true:=by
 unfold InstT InstR
 split
 ·have h:=inst_nr t v
  unfold fitT
  by_cases hk:okT (rebP (instF v) t 0)
  ·rw [if_pos hk,if_pos (h.ok.1 hk)];exact h.alike
  ·rw [if_neg hk,if_neg (fun k=>hk (h.ok.2 k))];exact zero_nr.alike
 ·exact zero_nr.alike
end Go.Proofs.Ytdboloabpjmgaaa

namespace Go.Proofs.Ytdboloabpjmgaaa
open Go.RowKit Go.Proofs.YtdboloabpjmgaaaW.PrintWords Go.RegionInvYtdboloabpjmgaaa Go.RegionEYtdboloabpjmgaaa

def LvV (T:Nat→Prop) (l:Lv) (v:Value) (w:World) (O:Nat→Prop):Prop:=∃ A c,v=lvV A c l∧LvS w (fun k=>T k∨O k) A c l
theorem LvV.all {T:Nat→Prop} {l:Lv} {v:Value} {w:World} {O:Nat→Prop} (h:LvV T l v w O):∃ A c,v=lvV A c l∧LvIn w w.heap.size A c l:=by
 obtain ⟨A,c,e,h⟩:=h
 exact ⟨A,c,e,h.all⟩
section
variable {ops:Array Oper} {Q:Exit→Act→World→Prop} {R:Nat→Prop} {a:Act} {w:World} {o:Oper} {T:Nat→Prop}

end
end Go.Proofs.Ytdboloabpjmgaaa

namespace Go.Proofs.Ytdboloabpjmgaaa
open Go.RowKit Go.Proofs.YtdboloabpjmgaaaW.PrintWords Go.RegionInvYtdboloabpjmgaaa Go.RegionEYtdboloabpjmgaaa

def leastN (n:Nf):Int:=n.2.foldl max n.1
end Go.Proofs.Ytdboloabpjmgaaa

namespace Go.Proofs.Ytdboloabpjmgaaa
open Go.RowKit Go.Proofs.YtdboloabpjmgaaaW.PrintWords

theorem atP_ge {f:Nf} (hf:NfOk f) (j:Nat):-1≤atP f.2 j:=(atP_ok hf.2.2.1 j).1
theorem atP_beyond {ks:List Int} {j:Nat} (h:ks.length≤j):atP ks j = -1:=atP_out (by omega)
theorem atP_lt {ks:List Int} {j:Nat} (h:j<ks.length):atP ks j=rd ks j:=atP_in (by omega)
theorem atP_get {ks:List Int} {j:Nat} (h:j<ks.length):atP ks j=ks[j]:=by
 rw [atP_lt h,rd_nat',List.getD_eq_getElem?_getD,List.getElem?_eq_getElem h];rfl
theorem fold_ge (ks:List Int) (c:Int):c≤ks.foldl max c∧∀ x∈ks,x≤ks.foldl max c:=by
 induction ks generalizing c with
 | nil=>exact ⟨Int.le_refl _,fun x hx=>by cases hx⟩
 | cons y r ih =>
  have:=ih (max c y)
  simp only [List.foldl_cons]
  refine ⟨by omega,fun x hx=>?_⟩
  rcases List.mem_cons.1 hx with rfl | hx
  ·omega
  ·exact this.2 x hx
theorem fold_le {ks:List Int} {c b:Int} (hc:c≤b) (h:∀ x∈ks,x≤b):ks.foldl max c≤b:=by
 induction ks generalizing c with
 | nil=>exact hc
 | cons y r ih =>
  simp only [List.foldl_cons]
  have:=h y (by simp)
  exact ih (by omega) fun x hx=>h x (by simp [hx])
theorem least_ge (f:Nf):f.1≤leastN f:=(fold_ge f.2 f.1).1
theorem least_at {f:Nf} (j:Nat) (h0:-1≤leastN f):atP f.2 j≤leastN f:=by
 by_cases h:j<f.2.length
 ·rw [atP_get h];exact (fold_ge f.2 f.1).2 _ (List.getElem_mem _)
 ·rw [atP_beyond (by omega)];exact h0
theorem least_le {f:Nf} {b:Int} (hc:f.1≤b) (h:∀ j:Nat,atP f.2 j≤b):leastN f≤b:=
 fold_le hc fun x hx=>by
  obtain ⟨j,hj,rfl⟩:=List.getElem_of_mem hx
  have:=h j
  rwa [atP_get hj] at this
theorem maxL_ge {ks:List Int}:∀ x∈ks,x≤maxL ks:=by
 cases ks with
 | nil=>intro x hx;cases hx
 | cons y r =>
  intro x hx
  rcases List.mem_cons.1 hx with rfl | hx
  ·exact (fold_ge r _).1
  ·exact (fold_ge r _).2 x hx
theorem maxL_mem {ks:List Int} (h:ks≠[]):maxL ks∈ks:=by
 cases ks with
 | nil=>exact absurd rfl h
 | cons y r =>
  have key:∀ (r:List Int) (c:Int),r.foldl max c=c∨r.foldl max c∈r:=by
   intro r
   induction r with
   | nil=>intro c;exact .inl rfl
   | cons z r ih =>
    intro c
    simp only [List.foldl_cons]
    rcases ih (max c z) with h | h
    ·by_cases hz:z≤c
     ·left;rw [h];omega
     ·right;rw [h];rw [show max c z=z by omega];simp
    ·right;exact List.mem_cons_of_mem _ h
  rcases key r y with h | h
  ·show r.foldl max y∈_;rw [h];simp
  ·exact List.mem_cons_of_mem _ h
theorem trim_le (ks:List Int) (j:Nat):trimTo ks j≤j:=by
 induction j with
 | zero=>rw [trimTo];omega
 | succ j ih=>rw [trimTo];split <;> omega
theorem trim_neg (ks:List Int):∀ (j i:Nat),trimTo ks j≤i→i<j→rd ks i<0:=by
 intro j
 induction j with
 | zero=>intro i _ h;omega
 | succ j ih =>
  intro i h1 h2
  rw [trimTo] at h1
  split at h1
  ·rename_i hn
   by_cases e:i=j
   ·subst e;exact hn
   ·exact ih i h1 (by omega)
  ·omega
theorem trim_last (ks:List Int) (j:Nat) (h:0<trimTo ks j):0≤rd ks ((trimTo ks j - 1:Nat):Int):=by
 induction j with
 | zero=>rw [trimTo] at h;omega
 | succ j ih =>
  rw [trimTo] at h ⊢
  split at h
  ·rename_i hn
   rw [if_pos hn]
   exact ih h
  ·rename_i hn
   rw [if_neg hn]
   have:rd ks ((j+1 - 1:Nat):Int)=rd ks (j:Nat):=rfl
   rw [this]
   omega
theorem atP_short {f:Nf} (hf:NfOk f) (j:Nat):atP (shortN f).2 j=atP f.2 j:=by
 have hle:=trim_le f.2 f.2.length
 have hl:(shortN f).2.length=trimTo f.2 f.2.length:=by simp [shortN];omega
 by_cases h1:j<trimTo f.2 f.2.length
 ·rw [atP_get (by rw [hl];exact h1),atP_get (show j<f.2.length by omega)]
  simp [shortN]
 ·rw [atP_beyond (by rw [hl];omega)]
  by_cases h2:j<f.2.length
  ·have h3:=trim_neg f.2 f.2.length j (by omega) h2
   have h4:=atP_ge hf j
   rw [atP_lt h2] at h4 ⊢
   omega
  ·rw [atP_beyond (by omega)]
theorem short_fst (f:Nf):(shortN f).1=if f.2≠[]∧f.1≤maxL f.2 then 0 else f.1:=rfl
theorem least_short {f:Nf} (hf:NfOk f):leastN (shortN f)=leastN f:=by
 have h0:=hf.1
 have hge:=least_ge f
 apply Int.le_antisymm
 ·refine least_le ?_ fun j=>by rw [atP_short hf];exact least_at j (by omega)
  rw [short_fst];split <;> omega
 ·have hs0:0≤(shortN f).1:=by rw [short_fst];split <;> omega
  have hsg:=least_ge (shortN f)
  refine least_le ?_ fun j=>by rw [← atP_short hf];exact least_at j (by omega)
  by_cases hz:f.2≠[]∧f.1≤maxL f.2
  ·obtain ⟨j,hj,hjm⟩:=List.getElem_of_mem (maxL_mem hz.1)
   have h1:=least_at (f:=shortN f) j (by omega)
   rw [atP_short hf,atP_get hj,hjm] at h1
   omega
  ·rw [short_fst,if_neg hz] at hsg;exact hsg
def eqR (f h:Nf):Prop:=(∀ j:Nat,atP f.2 j=atP h.2 j)∧leastN f=leastN h
theorem short_len {f h:Nf} (hf:NfOk f) (hh:NfOk h) (ha:∀ j:Nat,atP f.2 j=atP h.2 j):(shortN f).2.length=(shortN h).2.length:=by
 have key:∀ {f h:Nf},NfOk f→NfOk h→(∀ j:Nat,atP f.2 j=atP h.2 j)→¬ (shortN h).2.length<(shortN f).2.length:=by
  intro f h hf hh ha hlt
  have hle:=trim_le f.2 f.2.length
  have hl:(shortN f).2.length=trimTo f.2 f.2.length:=by simp [shortN];omega
  have h1:=trim_last f.2 f.2.length (by omega)
  have h2:atP (shortN h).2 ((trimTo f.2 f.2.length - 1:Nat):Int) = -1:=atP_beyond (by omega)
  rw [atP_short hh,← ha,atP_lt (by omega)] at h2
  omega
 have h1:=key hf hh ha
 have h2:=key hh hf fun j=>(ha j).symm
 omega
theorem short_max {f:Nf} (hf:NfOk f):(shortN f).1=if f.2≠[]∧f.1≤maxL f.2 then 0 else leastN f:=by
 rw [short_fst]
 split
 ·rfl
 ·rename_i hz
  have h0:=hf.1
  apply Int.le_antisymm (least_ge f)
  refine least_le (Int.le_refl _) fun j=>?_
  by_cases hj:j<f.2.length
  ·rw [atP_get hj]
   have h1:=maxL_ge _ (List.getElem_mem hj)
   have:f.2≠[]:=by intro e;rw [e] at hj;simp at hj
   by_cases h2:f.1≤maxL f.2
   ·exact absurd ⟨this,h2⟩ hz
   ·omega
  ·rw [atP_beyond (by omega)];omega
theorem zero_iff {f:Nf} (hf:NfOk f):(f.2≠[]∧f.1≤maxL f.2)↔∃ j:Nat,atP f.2 j=leastN f:=by
 have h0:=hf.1
 have hge:=least_ge f
 constructor
 ·rintro ⟨h1,h2⟩
  obtain ⟨j,hj,hjm⟩:=List.getElem_of_mem (maxL_mem h1)
  refine ⟨j,Int.le_antisymm (least_at j (by omega)) ?_⟩
  rw [atP_get hj,hjm]
  exact fold_le h2 fun x hx=>maxL_ge x hx
 ·rintro ⟨j,hj⟩
  by_cases hlt:j<f.2.length
  ·refine ⟨by intro e;rw [e] at hlt;simp at hlt,?_⟩
   rw [atP_get hlt] at hj
   have:=maxL_ge _ (List.getElem_mem hlt)
   omega
  ·rw [atP_beyond (by omega)] at hj;omega
theorem short_eq {f h:Nf} (hf:NfOk f) (hh:NfOk h):shortN f=shortN h↔eqR f h:=by
 constructor
 ·intro e
  exact ⟨fun j=>by rw [← atP_short hf,← atP_short hh,e],by rw [← least_short hf,← least_short hh,e]⟩
 ·rintro ⟨ha,hl⟩
  refine nf_ext ?_ (short_len hf hh ha) fun j=>by rw [atP_short hf,atP_short hh,ha]
  have hz:(f.2≠[]∧f.1≤maxL f.2)↔(h.2≠[]∧h.1≤maxL h.2):=by
   rw [zero_iff hf,zero_iff hh,hl]
   exact ⟨fun ⟨j,e⟩=>⟨j,by rw [← ha];exact e⟩,fun ⟨j,e⟩=>⟨j,by rw [ha];exact e⟩⟩
  rw [short_max hf,short_max hh,hl]
  by_cases hc:f.2≠[]∧f.1≤maxL f.2
  ·rw [if_pos hc,if_pos (hz.1 hc)]
  ·rw [if_neg hc,if_neg fun h'=>hc (hz.2 h')]
end Go.Proofs.Ytdboloabpjmgaaa

namespace Go.Proofs.Ytdboloabpjmgaaa
open Go.RowKit Go.Proofs.YtdboloabpjmgaaaW.PrintWords Go.RegionInvYtdboloabpjmgaaa Go.RegionEYtdboloabpjmgaaa
section
variable {ops:Array Oper} {Q:Exit→Act→World→Prop} {R:Nat→Prop} {a:Act} {w:World} {o:Oper} {T:Nat→Prop}

end

theorem atP_plus (n:Int) (f:Nf) (j:Nat):atP (plusN n f).2 j=addN n (atP f.2 j):=by
 have hl:(plusN n f).2.length=f.2.length:=by simp [plusN]
 by_cases hj:j<f.2.length
 ·rw [atP_get (by rw [hl];exact hj),atP_get hj];simp [plusN]
 ·rw [atP_beyond (by omega),atP_beyond (by omega)];rfl
theorem plus_fst (n:Int) (f:Nf):(plusN n f).1=min 1099511627776 (f.1+n):=rfl
end Go.Proofs.Ytdboloabpjmgaaa

namespace Go.Proofs.Ytdboloabpjmgaaa
open Go.RowKit Go.Proofs.YtdboloabpjmgaaaW.PrintWords Go.RegionInvYtdboloabpjmgaaa Go.RegionEYtdboloabpjmgaaa

theorem le_ext {x y:Int} (h:∀ b,x≤b↔y≤b):x=y:=Int.le_antisymm ((h y).2 (Int.le_refl _)) ((h x).1 (Int.le_refl _))
theorem atP_varN (n j:Nat):atP (List.replicate n (-1:Int) ++ [0]) j=if j=n then 0 else -1:=by
 by_cases hj:j<(List.replicate n (-1:Int) ++ [0]).length
 ·rw [atP_get hj]
  by_cases e:j=n
  ·subst e;rw [if_pos rfl];simp
  ·rw [if_neg e]
   have:j<n:=by simp at hj;omega
   rw [List.getElem_append_left (by simpa using this)];simp
 ·rw [atP_beyond (by omega),if_neg];simp at hj;omega
end Go.Proofs.Ytdboloabpjmgaaa

namespace Go.Proofs.Ytdboloabpjmgaaa
open Go.RowKit Go.Proofs.YtdboloabpjmgaaaW.PrintWords

def varL (k:Int) (i:Nat):Lv:=plP k (.mk 2 i [])
def partsK (f:Nf):Nat→List Lv
 | 0=>if 0<f.1∨f.2=[] then [.mk 1 f.1 []] else []
 | j+1=>partsK f j ++ (if 0≤rd f.2 (j:Nat) then [varL (rd f.2 (j:Nat)) j] else [])
def partsN (f:Nf):List Lv:=partsK f f.2.length
def foldM:Lv→List Lv→Lv
 | o,[]=>o
 | o,p :: r=>foldM (.mk 4 0 [o,p]) r
def lvlN (f:Nf):Lv:=match partsN f with
 | []=>.mk 0 0 []
 | x :: r=>foldM x r
theorem foldM_snoc (o:Lv) (r:List Lv) (p:Lv):foldM o (r ++ [p])=.mk 4 0 [foldM o r,p]:=by
 induction r generalizing o with
 | nil=>rfl
 | cons q r ih=>exact ih _
theorem var_sound {i:Nat} (hi:i≤1000):soundB (.mk 2 i [])=true:=by
 rw [sound_iff,sz_mk,dp_mk,szs_nil,dps_nil]
 exact ⟨good_var (by omega) (by omega),by omega,by omega⟩
theorem var_sum (i:Nat):sumP (.mk 2 i [])=(0,List.replicate i (-1) ++ [0]):=by
 show ofP [] _=_
 rw [ofP_var]
 unfold varN;rw [if_neg (by simp),Int.toNat_natCast]
theorem mem_parts {f:Nf} {p:Lv} (n:Nat):p∈partsK f n↔((0<f.1∨f.2=[])∧p=.mk 1 f.1 [])∨∃ i:Nat,i<n∧0≤rd f.2 (i:Nat)∧p=varL (rd f.2 (i:Nat)) i:=by
 induction n with
 | zero =>
  rw [partsK]
  split
  ·rename_i h
   simp [h]
  ·rename_i h
   simp [h]
 | succ n ih =>
  rw [partsK,List.mem_append,ih]
  constructor
  ·rintro ((h | ⟨i,hi,h0,hp⟩) | h)
   ·exact .inl h
   ·exact .inr ⟨i,by omega,h0,hp⟩
   ·split at h
    ·rename_i h0
     exact .inr ⟨n,by omega,h0,by simpa using h⟩
    ·cases h
  ·rintro (h | ⟨i,hi,h0,hp⟩)
   ·exact .inl (.inl h)
   ·by_cases e:i=n
    ·subst e
     right
     rw [if_pos h0]
     simpa using hp
    ·exact .inl (.inr ⟨i,by omega,h0,hp⟩)
theorem num_sum (c:Int):sumP (.mk 1 c [])=(c,[]):=by
 show ofP [] _=_
 rw [ofP_num]
theorem len_le {l:Lv} (h:Good l):(sumP l).2.length≤1001:=by
 induction h with
 | @mk k n ks h hk ih =>
  rcases good_cases (.mk h hk) with ⟨rfl,rfl,h0,h1⟩ | ⟨rfl,rfl,h0,h1⟩ | ⟨rfl,x,rfl,h0,h1,-⟩ | ⟨rfl,x,y,rfl,-,-⟩
  ·rw [num_sum];simp
  ·obtain ⟨i,rfl⟩:=Int.eq_ofNat_of_zero_le h0
   have:sumP (.mk 2 (i:Int) [])=_:=var_sum i
   rw [this];simp;omega
  ·have:=ih x (by simp)
   show (ofP [] _).2.length≤_
   rw [ofP_succ]
   have e:sumP x=ofP [] x:=rfl
   rw [e] at this
   simpa [plusN] using this
  ·have hx:=ih x (by simp)
   have hy:=ih y (by simp)
   show (ofP [] _).2.length≤_
   rw [ofP_max,or_len]
   have ex:sumP x=ofP [] x:=rfl
   have ey:sumP y=ofP [] y:=rfl
   rw [ex] at hx;rw [ey] at hy
   omega
theorem short_len_le (f:Nf):(shortN f).2.length≤f.2.length:=by
 have:=trim_le f.2 f.2.length
 simp [shortN];omega
theorem short_ok {f:Nf} (hf:NfOk f):NfOk (shortN f):=by
 have hl:=short_len_le f
 refine ⟨by rw [short_fst];have:=hf.1;split <;> omega,by rw [short_fst];have:=hf.2.1;split <;> omega,fun x hx=>hf.2.2.1 x (List.mem_of_mem_take hx),by have:=hf.2.2.2;omega⟩
theorem parts_ne {f:Nf} (hf:NfOk f):partsN (shortN f)≠[]:=by
 intro h
 have hall:∀ p,¬ p∈partsN (shortN f):=by rw [h];intro p hp;cases hp
 have hok:=short_ok hf
 by_cases hc:0<(shortN f).1∨(shortN f).2=[]
 ·exact hall _ ((mem_parts _).2 (.inl ⟨hc,rfl⟩))
 ·have hz:(shortN f).2.length≠0:=fun e=>hc (.inr (List.eq_nil_of_length_eq_zero e))
  have hle:=trim_le f.2 f.2.length
  have hl:(shortN f).2.length=trimTo f.2 f.2.length:=by simp [shortN];omega
  have h1:=trim_last f.2 f.2.length (by omega)
  have h2:rd (shortN f).2 ((trimTo f.2 f.2.length - 1:Nat):Int)=rd f.2 ((trimTo f.2 f.2.length - 1:Nat):Int):=by
   rw [← atP_lt (by omega),← atP_lt (by omega),atP_short hf]
  exact hall _ ((mem_parts _).2 (.inr ⟨trimTo f.2 f.2.length - 1,by omega,by rw [h2];exact h1,rfl⟩))
theorem parts_len (f:Nf) (n:Nat):(partsK f n).length≤n+1:=by
 induction n with
 | zero=>rw [partsK];split <;> simp
 | succ n ih =>
  rw [partsK,List.length_append]
  have:(if 0≤rd f.2 (n:Nat) then [varL (rd f.2 (n:Nat)) n] else []).length≤1:=by split <;> simp
  omega
end Go.Proofs.Ytdboloabpjmgaaa

namespace Go.Proofs.Ytdboloabpjmgaaa
open Go.RowKit Go.Proofs.YtdboloabpjmgaaaW.PrintWords Go.RegionInvYtdboloabpjmgaaa Go.RegionEYtdboloabpjmgaaa

structure PK (w wr:World) (c:Int) (B:Value) (V:Value) (xs:List Lv):Prop where
 x1:wr.heap[w.heap.size]?=some (.cells #[.int .i64 c,B] 102 (0,0))
 x2:wr.heap[w.heap.size+1]?=some (.cells #[.int .i64 0,.int .i64 0,.slice none 0 0] 25 (0,0))
 kids:KidsAt wr (w.heap.size+2) V xs
 bel:Below w.heap.size w wr
theorem PK.later {w wr w':World} {c:Int} {B V:Value} {xs:List Lv} (h:PK w wr c B V xs) (hb:Below wr.heap.size wr w'):PK w w' c B V xs:=
 ⟨blk_below h.x1 hb,blk_below h.x2 hb,h.kids.later hb,below_then h.bel h.bel.size hb⟩
theorem PK.base {w wr:World} {c:Int} {B V:Value} {xs:List Lv} (h:PK w wr c B V xs):w.heap.size+2≤wr.heap.size:=by have:=blk_lt h.x2;omega
theorem pk_push {w w5 w6:World} {c:Int} {B V v6:Value} {xs:List Lv} {A5:Option Addr} {c5:Nat} {x:Lv} {cells:List Value} {fA:Nat→Option Addr} {fc:Nat→Nat} (h:PK w w5 c B V xs)
  (ho:w5.ownsRow (w.heap.size+2) 25 3 V xs.length cells)
  (hk:∀ (i:Nat) (x:Lv),xs[i]?=some x→cells[i * 3]?=some (.int .i64 x.kind)∧cells[i * 3+1]?=some (.int .i64 x.num)∧cells[i * 3+2]?=some (.slice (fA i) x.kids.length (fc i))∧LvS w5 (fun b=>w.heap.size+2≤b∧V.ownBlock≠some b) (fA i) (fc i) x)
  (hl:LvS w5 (fun b=>w.heap.size+2≤b∧V.ownBlock≠some b) A5 c5 x)
  (ho1:w6.ownsRow (w.heap.size+2) 25 3 v6 (xs.length+1) (cells ++ [.int .i64 x.kind,.int .i64 x.num,.slice A5 x.kids.length c5])) (hg:w5.grownBy w6 V.ownBlock) (hat:v6.ownBlock=V.ownBlock∨∃ b,v6.ownBlock=some b∧w5.heap.size≤b):PK w w6 c B v6 (xs ++ [x]):=by
 have far:∀ k,k<w.heap.size+2→some k≠V.ownBlock:=fun k hk e=>by have:=own_base ho k e.symm;omega
 refine ⟨?_,?_,KidsAt.push ho hk hl ho1 hg hat,⟨hg.os.trans h.bel.os,hg.tape.trans h.bel.tape,hg.output.trans h.bel.output,Nat.le_trans h.bel.size hg.size,fun i hi=>?_⟩⟩
 ·rw [hg.block _ (blk_lt h.x1) (far _ (by omega))];exact h.x1
 ·rw [hg.block _ (blk_lt h.x2) (far _ (by omega))];exact h.x2
 ·rw [hg.block i (Nat.lt_of_lt_of_le hi h.bel.size) (far i (by omega))];exact h.bel.block i hi
theorem leafS {w:World} {S S':Nat→Prop} {A:Option Addr} {c:Nat} {k n:Int} (h:LvS w S A c (.mk k n [])):LvS w S' A c (.mk k n []):=by
 cases h with
 | mk fA fc hc hm hcell hk=>exact .mk fA fc hc hm (fun i x hx=>by simp at hx) (fun i x hx=>by simp at hx)
theorem fresh_away {w wr w5:World} {c:Int} {B V:Value} {xs:List Lv} {A:Option Addr} {c5:Nat} {x:Lv} {m:Nat} (h:PK w wr c B V xs) (hm:wr.heap.size≤m) (hl:LvS w5 (fun b=>False∨m≤b) A c5 x):LvS w5 (fun b=>w.heap.size+2≤b∧V.ownBlock≠some b) A c5 x:=by
 have hb:=h.base
 obtain ⟨cells,fA,fc,ho,_⟩:=h.kids
 refine hl.mono fun b hb' _=>?_
 rcases hb' with hb' | hb'
 ·exact hb'.elim
 ·exact ⟨by omega,fun e=>by have:=own_lt ho b e;omega⟩
structure OutB (lo:Nat) (wc wr:World) (y:Lv) (A:Option Addr) (c:Nat):Prop where
 box:wr.heap[wc.heap.size]?=some (.cells #[.int .i64 y.kind,.int .i64 y.num,.slice A y.kids.length c] 25 (0,0))
 lv:LvS wr (fun b=>lo≤b∧b≠wc.heap.size) A c y
 bel:Below wc.heap.size wc wr
theorem outb_next {lo:Nat} {wc wr:World} {o q:Lv} {A6 A7:Option Addr} {c6 c7:Nat} (h:OutB lo wc wr o A6 c6) (hlo:lo≤wc.heap.size) (hq:LvS wc (fun b=>lo≤b) A7 c7 q) :
  OutB lo wc (((((wr.setCell ⟨wc.heap.size,0,none⟩ (.int .i64 4)).setCell ⟨wc.heap.size,1,none⟩ (.int .i64 0)).setCell ⟨wc.heap.size,2,none⟩ (.slice (some ⟨wr.heap.size+1,0,none⟩) 2 2)).alloc (.cells #[.int .i64 q.kind,.int .i64 q.num,.slice A7 q.kids.length c7] 25 (0,0))).alloc
   (.cells #[.int .i64 o.kind,.int .i64 o.num,.slice A6 o.kids.length c6,.int .i64 q.kind,.int .i64 q.num,.slice A7 q.kids.length c7] 25 (0,0))) (.mk 4 0 [o,q]) (some ⟨wr.heap.size+1,0,none⟩) 2:=by
 have hpz:=blk_lt h.box
 have hs3:=set3 (a:=.int .i64 4) (b:=.int .i64 0) (c:=.slice (some ⟨wr.heap.size+1,0,none⟩) 2 2) h.box
 have hc3:=chg_set3 wr wc.heap.size (.int .i64 4) (.int .i64 0) (.slice (some ⟨wr.heap.size+1,0,none⟩) 2 2)
 obtain ⟨w1,hw1⟩:∃ w1,w1=((wr.setCell ⟨wc.heap.size,0,none⟩ (.int .i64 4)).setCell ⟨wc.heap.size,1,none⟩ (.int .i64 0)).setCell ⟨wc.heap.size,2,none⟩ (.slice (some ⟨wr.heap.size+1,0,none⟩) 2 2):=⟨_,rfl⟩
 have hz1:w1.heap.size=wr.heap.size:=by rw [hw1];simp [World.setCell]
 rw [← hw1] at hs3 hc3 ⊢
 clear hw1
 have hch:=chg_trans (chg_trans hc3 (chg_alloc _ w1 (.cells #[.int .i64 q.kind,.int .i64 q.num,.slice A7 q.kids.length c7] 25 (0,0)))) (chg_alloc _ _ (.cells #[.int .i64 o.kind,.int .i64 o.num,.slice A6 o.kids.length c6,.int .i64 q.kind,.int .i64 q.num,.slice A7 q.kids.length c7] 25 (0,0)))
 have hn:=box1 w1 (.cells #[.int .i64 q.kind,.int .i64 q.num,.slice A7 q.kids.length c7] 25 (0,0)) (.cells #[.int .i64 o.kind,.int .i64 o.num,.slice A6 o.kids.length c6,.int .i64 q.kind,.int .i64 q.num,.slice A7 q.kids.length c7] 25 (0,0))
 rw [hz1] at hn
 have hql:=((hq.mono (S':=fun b=>lo≤b∧b≠wc.heap.size) fun b hb hz=>⟨hb,by omega⟩).later h.bel)
 refine ⟨blk_alloc (blk_alloc hs3 _) _,?_,Chg.trans_below h.bel hch (fun _ e=>by omega) h.bel.size⟩
 exact LvS.pair hn (h.lv.same fun b hb hz=>hch.block b hz hb.2) (hql.same fun b hb hz=>hch.block b hz hb.2) ⟨by omega,by omega⟩ 4 0
set_option maxHeartbeats 8000000 in
theorem level_calls (A:Option Addr) (n cap:Nat) (c:Int) (ks:List Int) (w:World) (hr:ReadsInt w .i64 A n ks) (hok:NfOk (c,ks)) (hlen:n≤1001) (hne:partsN (c,ks)≠[]) :
  Calls Try.prog 114 #[.agg #[.int .i64 c,.slice A n cap]] w (LvGot w (fun _=>False) (lvlN (c,ks))):=by
 have HR:=Ak hr
 have HN:=Ak hr.1
 have HOK:=Ak hok
 have HNE:=Ak hne
 have hc0:=hok.1
 clear hr hok hne
 obtain ⟨W,hW⟩:∃ W,W=((w.alloc (.cells #[.int .i64 c,.slice A n cap] 102 (0,0))).alloc (.cells #[.int .i64 0,.int .i64 0,.slice none 0 0] 25 (0,0))):=⟨_,rfl⟩
 have hst:PK w W c (.slice A n cap) (.slice none 0 0) []:=by
  rw [hW]
  exact ⟨box0 w _ _,box1 w _ _,KidsAt.nil _ _,below_alloc (below_alloc (Below.refl _ _) _) _⟩
 have HST:=Ak hst
 clear hst
 go_enter Try.func114,Try.ntmps114
 go_upto_region 2 with (fail)
 rw [← hW]
 clear hW
 obtain ⟨d0,d1,-,-⟩:=row2 HST.out.x1
 go_cut [17] (fun v wr=>v=.bool (decide (0<c∨ks=[]))∧wr=W)
 case first =>
  by_cases hc:0<c
  ·have HD:=Ak (show decide (0<c∨ks=[])=true from decide_eq_true (.inl hc))
   go_wp2
   go_meet
   case rel=>exact ⟨by rw [HD.out],by first | rfl | trivial⟩
  ·by_cases hn:n=0
   ·have HD:=Ak (show decide (0<c∨ks=[])=true from decide_eq_true (.inr (List.eq_nil_of_length_eq_zero (by rw [HN.out];exact hn))))
    have hb:((n:Int) == 0)=true:=by simp [hn]
    clear hn
    go_wp2
    go_meet
    case rel=>exact ⟨by rw [HD.out],by first | rfl | trivial⟩
   ·have HD:=Ak (show decide (0<c∨ks=[])=false from decide_eq_false fun h=>h.elim hc fun h=>hn (by rw [← HN.out,h];rfl))
    have hb:((n:Int) == 0)=false:=by simp;omega
    go_wp2
    go_meet
    case rel=>exact ⟨by rw [HD.out],by first | rfl | trivial⟩
 case rest =>
  obtain ⟨rfl,rfl⟩:=hcut
  obtain ⟨bb,hbb⟩:∃ bb,bb=decide (0<c∨ks=[]):=⟨_,rfl⟩
  rw [← hbb]
  have HP0:=Ak (show partsK (c,ks) 0=(if bb=true then [.mk 1 c []] else []) by
   rw [partsK,hbb];simp)
  clear hbb
  go_upto_if 17 with (fail)
  go_cut [3] (fun v wr=>Aside0 (PK w wr c (.slice A n cap) v (partsK (c,ks) 0)))
  case first =>
   cases bb with
   | true =>
    go_wp2_with (first
     | (go_at_call 128;go_must (refine (num_calls (fun _=>False) c _).mono ?_;rintro e w5 ⟨A5,c5,rfl,hl5,hb5⟩;have ST5:=Ak (HST.out.later hb5);have HL5:=Ak (fresh_away HST.out (Nat.le_refl _) hl5);clear hl5 hb5;simp only [lvV,Lv.kind,Lv.num,Lv.kids,List.length_nil]))
     | (at_builtin;go_must (obtain ⟨cells,fA,fc,hown,hkids⟩:=ST5.out.kids;refine print_append_cells (w0:=w5) (W:=w5) (w.heap.size+2) rfl (.tmp 18) (.tmp 22) 23 25 _ 3 40 rfl Try.underlying23 infoLv rfl (by decide) (by decide) (.slice none 0 0) 0 cells [.int .i64 1,.int .i64 c,.slice A5 0 c5] rfl rfl rfl (by simp [Value.oneCell']) hown (Below.refl _ _) ST5.out.base (by decide) ?_;intro v6 w6 ho6 _ hg6 hat6;have ST6:=Ak (pk_push ST5.out hown hkids HL5.out ho6 hg6 hat6);obtain ⟨A6,L6,c6,rfl,-⟩:=own_slice' ho6;clear hown hkids ho6 hg6 hat6)))
    go_meet
    case rel=>exact ⟨by rw [HP0.out];exact ST6.out⟩
   | false =>
    go_wp2
    go_meet
    case rel=>exact ⟨by rw [HP0.out];exact HST.out⟩
  case rest =>
   clear HST HP0 d0 d1
   obtain ⟨HST⟩:=hcut
   have HST:=Ak HST
   obtain ⟨d0,d1,-,-⟩:=row2 HST.out.x1
   go_upto_block 0 with (fail)
   go_cut [3] (fun v wr=>Aside0 (PK w wr c (.slice A n cap) v (partsN (c,ks))))
   case first =>
    go_wp2
    go_loopw [27,3] (fun i v wr=>∃ (j:Nat),i=.int .i64 j∧j≤n∧Aside0 (PK w wr c (.slice A n cap) v (partsK (c,ks) j))) (fun i _ _=>n - (intOf i).toNat)
    case atStart=>exact ⟨0,rfl,Nat.zero_le _,HST⟩
    case round =>
     clear HST d0 d1
     obtain ⟨j,rfl,hj,HST⟩:=hrel
     by_cases hlt:j<n
     ·obtain ⟨ad,rfl,hcx⟩:=(HR.out.below HST.out.bel).at_ j (by omega) (by omega)
      rw [Int.toNat_natCast] at hcx
      obtain ⟨y,hy⟩:∃ y,y=rd ks j:=⟨_,rfl⟩
      rw [← hy] at hcx
      have hyr:-1≤y∧y≤1099511627776:=by
       have:=atP_ok HOK.out.2.2.1 j
       rw [atP_lt (by rw [HN.out];exact hlt),← hy] at this
       exact this
      have HPK:=Ak (show partsK (c,ks) (j+1)=partsK (c,ks) j ++ (if 0≤y then [varL y j] else []) by rw [partsK,hy])
      have hpl:=parts_len (c,ks) j
      clear hy
      by_cases hy0:0≤y
      ·have HPK':=Ak (HPK.out.trans (by rw [if_pos hy0]))
       obtain ⟨xs,hxs⟩:∃ xs,xs=partsK (c,ks) j:=⟨_,rfl⟩
       rw [← hxs] at HST HPK' hpl
       clear hxs HPK
       obtain ⟨cl0,fA0,fc0,hown0,-⟩:=HST.out.kids
       obtain ⟨A0,L0,cp0,rfl,-⟩:=own_slice' hown0
       clear hown0
       go_wp2_with (first
        | (go_at_call 129;go_must (refine (var_calls (fun _=>False) j _).mono ?_;rintro e w4 ⟨A4,c4,rfl,hl4,hb4⟩;have ST4:=Ak (HST.out.later hb4);have HL4:=Ak hl4;clear hl4 hb4;simp only [lvV]))
        | (go_at_call 101;go_must (refine (plus_calls (fun _=>False) y A4 c4 (.mk 2 j []) w4 (leafS HL4.out) (by omega) (by simp only [Lv.num];omega)).mono ?_;obtain ⟨x,hx⟩:∃ x,x=varL y j:=⟨_,rfl⟩;rw [show plP y (.mk 2 j [])=x from hx.symm];rw [← hx] at HPK';rintro e w5 ⟨A5,c5,rfl,hl5,hb5⟩;have ST5:=Ak (ST4.out.later hb5);have HL5:=Ak (fresh_away ST4.out (Nat.le_refl _) hl5);clear hl5 hb5 hx;simp only [lvV]))
        | (at_builtin;go_must (obtain ⟨cells,fA,fc,hown,hkids⟩:=ST5.out.kids;refine print_append_cells (w0:=w5) (W:=w5) (w.heap.size+2) rfl (.tmp 34) (.tmp 39) 23 25 _ 3 40 rfl Try.underlying23 infoLv rfl (by decide) (by decide) (.slice A0 L0 cp0) xs.length cells [.int .i64 x.kind,.int .i64 x.num,.slice A5 x.kids.length c5] rfl rfl rfl (by simp [Value.oneCell']) hown (Below.refl _ _) ST5.out.base (by omega) ?_;intro v6 w6 ho6 _ hg6 hat6;have ST6:=Ak (pk_push ST5.out hown hkids HL5.out ho6 hg6 hat6);obtain ⟨A6,L6,c6,rfl,-⟩:=own_slice' ho6;clear hown hkids ho6 hg6 hat6)))
       go_roundw
       case rel=>exact ⟨j+1,by go_num,by omega,⟨by rw [HPK'.out];exact ST6.out⟩⟩
       case measure=>(simp [intOf];try omega)
      ·have HPK':=Ak (HPK.out.trans (by rw [if_neg hy0,List.append_nil]))
       clear HPK
       go_wp2
       go_roundw
       case rel=>exact ⟨j+1,by go_num,by omega,⟨by rw [HPK'.out];exact HST.out⟩⟩
       case measure=>(simp [intOf];try omega)
     ·obtain rfl:j=n:=by omega
      have hlt':decide ((j:Int)<j)=false:=by simp
      go_wp2
      go_meet
      case rel =>
       refine ⟨?_⟩
       unfold partsN
       rw [show ((c,ks):Nf).2.length=j from HN.out]
       exact HST.out
   case rest =>
    clear HST d0 d1
    obtain ⟨HST⟩:=hcut
    cases hp:partsN (c,ks) with
    | nil=>exact absurd hp HNE.out
    | cons x r =>
     have HE:=Ak (show lvlN (c,ks)=foldM x r by unfold lvlN;rw [hp])
     rw [hp] at HST
     have HST:=Ak HST
     clear hp
     obtain ⟨A9,c9,rfl,hlv⟩:=HST.out.kids.level
     have HLV:=Ak (hlv 0 0)
     have hcap:=HLV.out.len
     simp only [Lv.kids,List.length_cons] at hcap
     obtain ⟨A',c',hcs,hx0⟩:=HLV.out.kid 0 x rfl
     obtain ⟨gb,off,rfl,hgb⟩:=kid_ptr hcs
     obtain ⟨g0,g1,g2⟩:=lit_kid hcs
     simp only [Nat.zero_mul,Nat.add_zero] at g0 g1 g2
     have HX0:=Ak hx0
     have hgl:gb<wc.heap.size:=World.block_lt_of_cell? wc _ g0
     have hbase:=HST.out.base
     obtain ⟨N,hN⟩:∃ N,N=r.length:=⟨_,rfl⟩
     have hlen2:(x :: r).length=N+1:=by rw [hN];rfl
     rw [hlen2]
     rw [← hN] at hcap
     have HNR:=Ak hN
     clear hcs hx0 hlv hlen2 hN
     go_upto_block 2 with (fail)
     obtain ⟨P9,hP9⟩:∃ P9:Option Addr,P9=(if c9=1 then some ⟨gb,off,none⟩ else some ⟨gb,off+3,none⟩):=⟨_,rfl⟩
     rw [← hP9]
     have HP9:=Ak hP9
     have hout:OutB (w.heap.size+2) wc (wc.alloc (.cells #[.int .i64 x.kind,.int .i64 x.num,.slice A' x.kids.length c'] 25 (0,0))) (foldM x (r.take 0)) A' c':=by
      have hb:Below wc.heap.size wc (wc.alloc (.cells #[.int .i64 x.kind,.int .i64 x.num,.slice A' x.kids.length c'] 25 (0,0))):=below_alloc (Below.refl _ _) _
      exact ⟨blk_new _ _,((HX0.out.mono (S':=fun b=>w.heap.size+2≤b∧b≠wc.heap.size) fun b hb hz=>⟨hb,by omega⟩).later hb),hb⟩
     have HOUT:=Ak hout
     clear hP9 hout g0 g1 g2
     go_wp2
     go_loopw [48] (fun i wr=>∃ (j:Nat) (A6:Option Addr) (c6:Nat),i=.int .i64 j∧j≤N∧Aside0 (OutB (w.heap.size+2) wc wr (foldM x (r.take j)) A6 c6)) (fun i _=>N - (intOf i).toNat)
     case atStart=>exact ⟨0,A',c',rfl,Nat.zero_le _,HOUT⟩
     case round =>
      clear HOUT
      obtain ⟨j,A6,c6,rfl,hj,HOUT⟩:=hrel
      obtain ⟨d0,d1,d2,e0,e1,e2⟩:=row3 HOUT.out.box
      obtain ⟨o,ho⟩:∃ o,o=foldM x (r.take j):=⟨_,rfl⟩
      rw [← ho] at HOUT d0 d1 d2
      have HO:=Ak ho
      clear ho
      by_cases hlt:j<N
      ·obtain rfl:P9=some ⟨gb,off+3,none⟩:=by rw [HP9.out,if_neg (by omega)]
       have hlr:j<r.length:=by rw [← HNR.out];exact hlt
       obtain ⟨q,hq⟩:∃ q,r[j]?=some q:=⟨_,List.getElem?_eq_getElem hlr⟩
       obtain ⟨A7,c7,hcs,hqin⟩:=HLV.out.kid (j+1) q (by simpa [Lv.kids] using hq)
       obtain ⟨g0,g1,g2⟩:=lit_kid (hcs.same (w':=wr) fun k _ hk=>HOUT.out.bel.block k hk)
       rw [show off+(j+1) * 3=off+3+j * 3 by omega] at g0 g1 g2
       have HQ:=Ak hqin
       have HFS:=Ak (show foldM x (r.take (j+1))=.mk 4 0 [o,q] by rw [List.take_add_one,hq];show foldM x (r.take j ++ [q])=_;rw [foldM_snoc,HO.out])
       have hpz:=blk_lt HOUT.out.box
       clear hcs hqin hq
       go_wp2
       exact ⟨⟨j+1,_,_,by go_num,by omega,⟨by rw [HFS.out];exact outb_next HOUT.out hbase HQ.out⟩⟩,by simp [intOf];omega⟩
      ·obtain rfl:j=N:=by omega
       have hlt':decide ((j:Int)<j)=false:=by simp
       have HX2:=Ak (blk_below HST.out.x2 HOUT.out.bel)
       obtain ⟨z0,z1,z2,y0,y1,y2⟩:=row3 HX2.out
       have HF:=Ak (show lvlN (c,ks)=o by rw [HE.out,HO.out,List.take_of_length_le (by rw [← HNR.out];exact Nat.le_refl _)])
       go_wp2
       refine bodyPost_ret (results_c rfl _ _ (w.heap.size+1) 25 #[.int .i64 o.kind,.int .i64 o.num,.slice A6 o.kids.length c6] (0,0) _ rfl (set3 HX2.out) Try.underlying25 rfl (by kernel_rfl)) rfl ?_
       have hch:=chg_set3 wr (w.heap.size+1) (.int .i64 o.kind) (.int .i64 o.num) (.slice A6 o.kids.length c6)
       have hbw:=below_then HST.out.bel HST.out.bel.size HOUT.out.bel
       rw [HF.out]
       exact ⟨A6,c6,rfl,(HOUT.out.lv.same fun b hb hz=>hch.block b hz (by omega)).mono fun b hb _=>.inr (by omega),Chg.trans_below hbw hch (fun _ e=>by omega) hbw.size⟩
end Go.Proofs.Ytdboloabpjmgaaa

namespace Go.Proofs.Ytdboloabpjmgaaa
open Go.RowKit Go.Proofs.YtdboloabpjmgaaaW.PrintWords Go.RegionInvYtdboloabpjmgaaa Go.RegionEYtdboloabpjmgaaa

theorem own_var {i:Nat} (hi:i≤1000):owP (.mk 2 i [])=.mk 2 i []:=by rw [own_eq (var_sound hi),cpP,cpKs,if_neg (by decide)]
theorem short_len_le' {l:Lv} (h:soundB l=true):(shortN (sumP l)).2.length≤1001:=Nat.le_trans (short_len_le _) (len_le (good_of_sound h))
end Go.Proofs.Ytdboloabpjmgaaa

namespace Go.Proofs.Ytdboloabpjmgaaa
open Go.RowKit Go.Proofs.YtdboloabpjmgaaaW.PrintWords Go.RegionInvYtdboloabpjmgaaa Go.RegionEYtdboloabpjmgaaa

def lvAt (vs:List Lv) (n:Int):Lv:=vs.getD n.toNat (.mk 0 0 [])
def insvF (vs:List Lv) (k n:Int) (fs:List Nf):Int × List Nf:=
 if k=2∧n<vs.length then (if soundB (lvAt vs n)=true then (0,fs.set n.toNat (sumP (lvAt vs n))) else (1,fs)) else (0,fs)
mutual
def instP (vs:List Lv):Lv→List Nf→Int × List Nf
 | .mk k n ks,fs=>if (insvF vs k n fs).1≠0 then insvF vs k n fs else instKs vs ks (insvF vs k n fs).2
def instKs (vs:List Lv):List Lv→List Nf→Int × List Nf
 | [],fs=>(0,fs)
 | x :: r,fs=>if (instP vs x fs).1≠0 then instP vs x fs else instKs vs r (instP vs x fs).2
end
theorem instP_stop {vs:List Lv} {k n:Int} {ks:List Lv} {fs:List Nf} (h:(insvF vs k n fs).1≠0):instP vs (.mk k n ks) fs=insvF vs k n fs:=by rw [instP,if_pos h]
theorem instP_go {vs:List Lv} {k n:Int} {ks:List Lv} {fs:List Nf} (h:(insvF vs k n fs).1=0):instP vs (.mk k n ks) fs=instKs vs ks (insvF vs k n fs).2:=by rw [instP,if_neg (by simpa using h)]
theorem instKs_stop {vs:List Lv} {x:Lv} {r:List Lv} {fs:List Nf} (h:(instP vs x fs).1≠0):instKs vs (x :: r) fs=instP vs x fs:=by rw [instKs,if_pos h]
theorem instKs_go {vs:List Lv} {x:Lv} {r:List Lv} {fs:List Nf} (h:(instP vs x fs).1=0):instKs vs (x :: r) fs=instKs vs r (instP vs x fs).2:=by rw [instKs,if_neg (by simpa using h)]
theorem instKs_nil (vs:List Lv) (fs:List Nf):instKs vs [] fs=(0,fs):=by rw [instKs]
theorem insvF_len (vs:List Lv) (k n:Int) (fs:List Nf):(insvF vs k n fs).2.length=fs.length:=by
 unfold insvF;split
 ·split <;> simp
 ·rfl
mutual
theorem inst_len (vs:List Lv):(l:Lv)→(fs:List Nf)→(instP vs l fs).2.length=fs.length
 | .mk k n ks,fs=>by
  rw [instP];split
  ·exact insvF_len _ _ _ _
  ·rw [insts_len vs ks,insvF_len]
theorem insts_len (vs:List Lv):(ks:List Lv)→(fs:List Nf)→(instKs vs ks fs).2.length=fs.length
 | [],fs=>by rw [instKs]
 | x :: r,fs=>by
  rw [instKs];split
  ·exact inst_len vs x fs
  ·rw [insts_len vs r,inst_len vs x]
end
def Kept (vs:List Lv) (fs fs':List Nf):Prop:=fs'.length=fs.length∧∀ i:Nat,i<vs.length→fs[i]?=some (sumP (lvAt vs i))→fs'[i]?=some (sumP (lvAt vs i))
theorem Kept.trans {vs:List Lv} {a b c:List Nf} (h1:Kept vs a b) (h2:Kept vs b c):Kept vs a c:=⟨h2.1.trans h1.1,fun i hi h=>h2.2 i hi (h1.2 i hi h)⟩
theorem insvF_kept (vs:List Lv) (k n:Int) (fs:List Nf):Kept vs fs (insvF vs k n fs).2:=by
 refine ⟨insvF_len _ _ _ _,fun i hi h=>?_⟩
 unfold insvF
 split
 ·split
  ·rw [List.getElem?_set]
   split
   ·rename_i h1 h2 h3
    have hlt:=(List.getElem?_eq_some_iff.1 h).1
    rw [h3,if_pos hlt]
    have:lvAt vs n=lvAt vs i:=by unfold lvAt;rw [h3,Int.toNat_natCast]
    rw [this]
   ·exact h
  ·exact h
 ·exact h
mutual
theorem inst_kept (vs:List Lv):(l:Lv)→(fs:List Nf)→Kept vs fs (instP vs l fs).2
 | .mk k n ks,fs=>by
  rw [instP];split
  ·exact insvF_kept _ _ _ _
  ·exact (insvF_kept vs k n fs).trans (insts_kept vs ks _)
theorem insts_kept (vs:List Lv):(ks:List Lv)→(fs:List Nf)→Kept vs fs (instKs vs ks fs).2
 | [],fs=>by rw [instKs];exact ⟨rfl,fun _ _ h=>h⟩
 | x :: r,fs=>by
  rw [instKs];split
  ·exact inst_kept vs x fs
  ·exact (inst_kept vs x fs).trans (insts_kept vs r _)
end
theorem inst_sum {vs:List Lv}:∀ {l:Lv},Good l→∀ (fs fs':List Nf),fs.length=vs.length→(instP vs l fs).1=0→Kept vs (instP vs l fs).2 fs'→ofP fs' l=ofP (vs.map sumP) l:=by
 intro l h
 induction h with
 | @mk k n ks h hk ih =>
  intro fs fs' hl h0 hkp
  by_cases hF:(insvF vs k n fs).1=0
  ·rw [instP_go hF] at h0 hkp
   have hl2:(insvF vs k n fs).2.length=vs.length:=by rw [insvF_len,hl]
   rcases good_cases (.mk h hk) with ⟨rfl,rfl,h1,h2⟩ | ⟨rfl,rfl,h1,h2⟩ | ⟨rfl,x,rfl,h1,h2,-⟩ | ⟨rfl,x,y,rfl,-,-⟩
   ·rw [ofP_num,ofP_num]
   ·rw [ofP_var,ofP_var]
    rw [instKs_nil] at hkp
    have hlen:fs'.length=vs.length:=by rw [hkp.1,hl2]
    unfold varN
    rw [hlen,List.length_map]
    split
    ·rename_i hlt
     have hn:n.toNat<vs.length:=by omega
     have hset:(insvF vs 2 n fs).2[n.toNat]?=some (sumP (lvAt vs (n.toNat:Nat))):=by
      unfold insvF at hF ⊢
      rw [if_pos ⟨rfl,hlt⟩] at hF ⊢
      by_cases hs:soundB (lvAt vs n)=true
      ·rw [if_pos hs]
       simp only [List.getElem?_set]
       rw [if_pos trivial,if_pos (by omega)]
       have:lvAt vs n=lvAt vs (n.toNat:Nat):=by unfold lvAt;rw [Int.toNat_natCast]
       rw [this]
      ·rw [if_neg hs] at hF;exact absurd (show (1:Int)=0 from hF) (by decide)
     have:=hkp.2 n.toNat hn hset
     rw [List.getD_eq_getElem?_getD,this,List.getD_eq_getElem?_getD,List.getElem?_map,List.getElem?_eq_getElem hn]
     simp only [Option.map_some,Option.getD_some,lvAt,Int.toNat_natCast]
     rw [List.getD_eq_getElem?_getD,List.getElem?_eq_getElem hn];rfl
    ·rfl
   ·rw [ofP_succ,ofP_succ]
    rw [instKs] at h0 hkp
    by_cases hx:(instP vs x (insvF vs 3 n fs).2).1=0
    ·rw [if_neg (by simpa using hx),instKs_nil] at h0 hkp
     rw [ih x (by simp) _ fs' hl2 hx hkp]
    ·rw [if_pos hx] at h0;exact absurd h0 hx
   ·rw [ofP_max,ofP_max]
    rw [instKs] at h0 hkp
    by_cases hx:(instP vs x (insvF vs 4 n fs).2).1=0
    ·rw [if_neg (by simpa using hx),instKs] at h0 hkp
     have hl3:(instP vs x (insvF vs 4 n fs).2).2.length=vs.length:=by rw [inst_len,hl2]
     by_cases hy:(instP vs y (instP vs x (insvF vs 4 n fs).2).2).1=0
     ·rw [if_neg (by simpa using hy),instKs_nil] at h0 hkp
      rw [ih x (by simp) _ fs' hl2 hx ((inst_kept vs y _).trans hkp),ih y (by simp) _ fs' hl3 hy hkp]
     ·rw [if_pos hy] at h0;exact absurd h0 hy
    ·rw [if_pos hx] at h0;exact absurd h0 hx
  ·rw [instP_stop hF] at h0;exact absurd h0 hF
def instL (vs:List Lv) (l:Lv):Lv:=if soundB l=true∧(instP vs l (List.replicate vs.length (0,[]))).1=0 then lvlN (shortN (ofP (vs.map sumP) l)) else .mk 0 0 []
end Go.Proofs.Ytdboloabpjmgaaa

namespace Go.Proofs.Ytdboloabpjmgaaa
open Go.RowKit Go.Proofs.YtdboloabpjmgaaaW.PrintWords Go.RegionInvYtdboloabpjmgaaa Go.RegionEYtdboloabpjmgaaa

theorem m0 (k n:Int):LvM mostRow (.mk k n []):=.mk (Nat.zero_le _) (fun x h=>by simp at h)
theorem m1 {k n:Int} {x:Lv} (h:LvM mostRow x):LvM mostRow (.mk k n [x]):=.mk (by show 1≤8796093022208;omega) (fun y hy=>(List.mem_singleton.1 hy) ▸ h)
theorem m2 {k n:Int} {x y:Lv} (h:LvM mostRow x) (h2:LvM mostRow y):LvM mostRow (.mk k n [x,y]):=.mk (by show 2≤8796093022208;omega) (fun z hz=>by
 simp only [List.mem_cons,List.not_mem_nil,or_false] at hz
 rcases hz with rfl | rfl
 ·exact h
 ·exact h2)
theorem foldM_m:∀ (r:List Lv) (o:Lv),LvM mostRow o→(∀ x∈r,LvM mostRow x)→LvM mostRow (foldM o r)
 | [],o,h,_=>h
 | p :: r,o,h,hr=>foldM_m r _ (m2 h (hr p (by simp))) fun x hx=>hr x (by simp [hx])
theorem sim_self (N:Nat):∀ (l:Lv),SizeOf.sizeOf l<N→simB l l=true:=by
 induction N with
 | zero=>intro l h;omega
 | succ N ih =>
  rintro ⟨k,n,ks⟩ hN
  rw [sim_ok (k:=k) (n:=n) (ks:=ks) (l:=.mk k n ks) ⟨rfl,.inr rfl,rfl⟩]
  refine simKs_all rfl fun i x y h1 h2=>?_
  have h2':ks[i]?=some y:=h2
  obtain rfl:x=y:=Option.some.inj (h1.symm.trans h2')
  exact ih x (Nat.lt_of_lt_of_le (kid_small h1) (Nat.le_of_lt_succ hN))
theorem sl_self (l:Lv):slB l l=true:=by unfold slB;rw [sim_self _ l (Nat.lt_succ_self _)];rfl
theorem lvs_self:∀ (ls:List Lv),lvsSl ls ls=true
 | []=>rfl
 | x :: r=>by
  show (slB x x && lvsSl r r)=true
  rw [sl_self,lvs_self r];rfl
theorem varL_m (k:Int) (i:Nat):LvM mostRow (varL k i):=by
 unfold varL
 by_cases h:k<1
 ·rw [plP_own h];exact ow_m (m0 _ _)
 ·rw [plP_new h (by show ¬ (2:Int)=3;decide)];exact m1 (ow_m (m0 _ _))
theorem parts_m (f:Nf):∀ (j:Nat),∀ x∈partsK f j,LvM mostRow x
 | 0,x,hx=>by
  unfold partsK at hx
  split at hx
  ·exact (List.mem_singleton.1 hx) ▸ m0 _ _
  ·simp at hx
 | j+1,x,hx=>by
  unfold partsK at hx
  rcases List.mem_append.1 hx with hx | hx
  ·exact parts_m f j x hx
  ·split at hx
   ·exact (List.mem_singleton.1 hx) ▸ varL_m _ _
   ·simp at hx
theorem lvlN_m (f:Nf):LvM mostRow (lvlN f):=by
 unfold lvlN
 have h:=parts_m f f.2.length
 unfold partsN
 cases hp:partsK f f.2.length with
 | nil=>exact m0 _ _
 | cons x r =>
  rw [hp] at h
  exact foldM_m r x (h x (by simp)) fun y hy=>h y (by simp [hy])
theorem instL_m (vs:List Lv) (l:Lv):LvM mostRow (instL vs l):=by
 unfold instL
 split
 ·exact lvlN_m _
 ·exact m0 _ _
def lvF (vs:List Lv) (x:Tm) (_:Int):Tm:=.mk x.kind (if x.kind=1 then x.num else 0) (if x.kind=7 then x.name else noName) (if x.kind=2 then instL vs x.lv else lv0) (if x.kind=7 then x.ls.map (instL vs) else []) []
def lvG (vs:List Lv) (x:Tm):Tm:=.mk x.kind x.num x.name (if x.kind=2 then instL vs x.lv else x.lv) (x.ls.map (instL vs)) x.kids
theorem lv_same (vs:List Lv) (x:Tm) (e:Int):lvF vs x e=lvG vs (bareG x):=by
 by_cases h1:x.kind=1
 ·rw [bareG_1 h1]
  unfold lvF lvG
  rw [if_pos h1,if_neg (by omega),if_neg (by omega),if_neg (by omega),h1]
  rfl
 ·by_cases h2:x.kind=2
  ·rw [bareG_2 (leafR_27 (.inl h2)) h2]
   unfold lvF lvG
   rw [if_neg h1,if_neg (by omega),if_pos h2,if_neg (by omega),h2]
   rfl
  ·by_cases h7:x.kind=7
   ·rw [bareG_7 (leafR_27 (.inr h7)) h7]
    unfold lvF lvG
    rw [if_neg h1,if_pos h7,if_neg h2,if_pos h7,h7]
    rfl
   ·have hb:bareG x=.mk x.kind 0 noName lv0 [] []:=by unfold bareG;rw [if_neg h1,if_neg h2,if_neg h7];split <;> rfl
    rw [hb]
    unfold lvF lvG
    rw [if_neg h1,if_neg h7,if_neg h2,if_neg h7]
    show Tm.mk x.kind 0 noName lv0 [] []=Tm.mk x.kind 0 noName (if x.kind=2 then _ else lv0) [] []
    rw [if_neg h2]
theorem hn_self (t:Tm):hnB t t=true:=by
 unfold hnB
 rw [sl_self,lvs_self]
 simp
theorem near_refl (N:Nat):∀ (t:Tm),SizeOf.sizeOf t<N→nearT t t=true:=by
 induction N with
 | zero=>intro t h;omega
 | succ N ih =>
  intro t hN
  rw [near_eq,hn_self,Bool.true_and,List.all_eq_true]
  intro i _
  have e:t.kids.getD i.1 default=kidF t i:=by
   rw [List.getD_eq_getElem?_getD,kidF_get t i]
   rfl
  rw [e]
  exact ih _ (by have:=kidF_lt t i;omega)
theorem alike_refl (t:Tm):alikeT t t=true:=by
 unfold alikeT
 split
 ·exact near_refl _ t (Nat.lt_succ_self _)
 ·simp
def InstLvT (t:Tm) (vs:List Lv):Tm:=if okT t then rebP (lvF vs) t 0 else zeroT
theorem instLv_reb (vs:List Lv) (t:Tm):rebP (lvF vs) t 0=rebP (fun x _=>lvG vs (bareG x)) t 0:=congrArg (fun F=>rebP F t 0) (funext fun x=>funext fun e=>lv_same vs x e)
theorem lvF_m (vs:List Lv) (x:Tm) (e:Int):TmM (lvF vs x e):=by
 unfold lvF
 refine .mk ?_ ?_ (fun x h=>by simp at h)
 ·split
  ·exact instL_m _ _
  ·exact lvM_zero
 ·split
  ·intro y hy
   obtain ⟨z,_,rfl⟩:=List.mem_map.1 hy
   exact instL_m _ _
  ·intro y hy;simp at hy
theorem instLv_m {t:Tm} (vs:List Lv) (h:TmM t):TmM (InstLvT t vs):=by
 unfold InstLvT
 split
 ·exact reb_m _ _ t (Nat.lt_succ_self _) 0 (fun x e _ _=>lvF_m vs x e) h
 ·exact zero_m
end Go.Proofs.Ytdboloabpjmgaaa

namespace Go.Proofs.Ytdboloabpjmgaaa
open Go.RowKit Go.Proofs.YtdboloabpjmgaaaW.PrintWords Go.RegionInvYtdboloabpjmgaaa Go.RegionEYtdboloabpjmgaaa

def InAt (w:World) (S:Nat→Prop) (G:Nat) (fs:List Nf):Prop:=
 ∃ cs:Array Value,w.heap[G]?=some (.cells cs 102 (0,0))∧cs.size=fs.length * 2 ∧
  ∀ (i:Nat) (f:Nf),fs[i]?=some f→∃ A' c',cs[i * 2]?=some (.int .i64 f.1)∧cs[i * 2+1]?=some (.slice A' f.2.length c')∧f.2.length≤c'∧IntsS w S A' f.2.length f.2
theorem InAt.same {w w':World} {S:Nat→Prop} {G:Nat} {fs:List Nf} (h:InAt w S G fs) (hG:w'.heap[G]?=w.heap[G]?) (hs:∀ k,S k→k<w.heap.size→w'.heap[k]?=w.heap[k]?):InAt w' S G fs:=by
 obtain ⟨cs,h1,h2,h3⟩:=h
 refine ⟨cs,hG.trans h1,h2,fun i f hf=>?_⟩
 obtain ⟨A',c',e1,e2,e3,e4⟩:=h3 i f hf
 exact ⟨A',c',e1,e2,e3,e4.same hs⟩
theorem InAt.mono {w:World} {S S':Nat→Prop} {G:Nat} {fs:List Nf} (h:InAt w S G fs) (hs:∀ k,S k→k<w.heap.size→S' k):InAt w S' G fs:=by
 obtain ⟨cs,h1,h2,h3⟩:=h
 refine ⟨cs,h1,h2,fun i f hf=>?_⟩
 obtain ⟨A',c',e1,e2,e3,e4⟩:=h3 i f hf
 exact ⟨A',c',e1,e2,e3,e4.mono hs⟩
theorem InAt.nfs {w:World} {S:Nat→Prop} {G:Nat} {fs:List Nf} (h:InAt w S G fs):NfsS w (fun k=>k=G∨S k) (some ⟨G,0,none⟩) fs:=by
 obtain ⟨cs,h1,h2,h3⟩:=h
 intro i f hf
 obtain ⟨A',c',e1,e2,e3,e4⟩:=h3 i f hf
 have hc:∀ (j:Nat) (v:Value),cs[j]?=some v→w.cell? ⟨G,j,none⟩=some v:=fun j v hv=>by rw [cell_of_row _ _ _ _ _ _ h1];exact hv
 exact ⟨G,0,A',c',rfl,.inl rfl,by rw [Nat.zero_add];exact hc _ _ e1,by rw [Nat.zero_add];exact hc _ _ e2,e3,e4.mono fun b hb _=>.inr hb⟩
theorem InAt.lt {w:World} {S:Nat→Prop} {G:Nat} {fs:List Nf} (h:InAt w S G fs):G<w.heap.size:=by
 obtain ⟨cs,h1,-⟩:=h
 exact blk_lt h1
theorem InAt.cells {w:World} {S:Nat→Prop} {G:Nat} {fs:List Nf} (h:InAt w S G fs) {n:Nat} (hn:n<fs.length):∃ x A' m' c',w.cell? ⟨G,n * 2,none⟩=some (.int .i64 x)∧w.cell? ⟨G,n * 2+1,none⟩=some (.slice A' m' c')∧w.frozen? ⟨G,n * 2,none⟩=false∧w.frozen? ⟨G,n * 2+1,none⟩=false:=by
 obtain ⟨cs,h1,h2,h3⟩:=h
 obtain ⟨A',c',e1,e2,e3,e4⟩:=h3 n _ (List.getElem?_eq_getElem hn)
 exact ⟨_,A',_,c',by rw [cell_of_row _ _ _ _ _ _ h1];exact e1,by rw [cell_of_row _ _ _ _ _ _ h1];exact e2,blk_frozen h1 _,blk_frozen h1 _⟩
theorem chg_pair (w:World) (g i j:Nat) (a b:Value):Chg (fun k=>k=g) w ((w.setCell ⟨g,i,none⟩ a).setCell ⟨g,j,none⟩ b):=chg_trans (chg_set _ _ _ _) (chg_set _ _ _ _)
theorem fix_in {w0:World} {G k:Nat} (hk:G<k∧k<w0.heap.size):Fix w0 (est2 10 0 (fun k=>k=G) (fun _=>False)) k:=est2_fix hk.2 (fun h=>by have h:k=G:=h;omega) (fun h=>h)
theorem InAt.put {w:World} {S S':Nat→Prop} {G:Nat} {fs:List Nf} (h:InAt w S G fs) {n:Nat} (hn:n<fs.length) {f:Nf} {A:Option Addr} {m c:Nat} (hm:m=f.2.length) (hc:m≤c) (hf:IntsS w S' A m f.2) (hS:∀ k,S k→S' k) (hG:¬ S' G) :
  InAt ((w.setCell ⟨G,n * 2,none⟩ (.int .i64 f.1)).setCell ⟨G,n * 2+1,none⟩ (.slice A m c)) S' G (fs.set n f):=by
 subst hm
 have hch:=chg_pair w G (n * 2) (n * 2+1) (.int .i64 f.1) (.slice A f.2.length c)
 have hsame:∀ k,S' k→k<w.heap.size→((w.setCell ⟨G,n * 2,none⟩ (.int .i64 f.1)).setCell ⟨G,n * 2+1,none⟩ (.slice A f.2.length c)).heap[k]?=w.heap[k]?:=
  fun k hk hz=>hch.block k hz fun e=>hG (by have e:k=G:=e;rw [← e];exact hk)
 obtain ⟨cs,h1,h2,h3⟩:=h
 refine ⟨_,blk_set (blk_set h1 (n * 2) _) (n * 2+1) _,by simpa using h2,fun i g hg=>?_⟩
 have hi:i<fs.length:=by have:=(List.getElem?_eq_some_iff.1 hg).1;simpa using this
 rw [List.getElem?_set] at hg
 by_cases e:n=i
 ·subst e
  rw [if_pos rfl,if_pos hn] at hg
  obtain rfl:f=g:=by simpa using hg
  refine ⟨A,c,?_,?_,hc,hf.same hsame⟩
  ·rw [Array.getElem?_setIfInBounds,if_neg (by omega),Array.getElem?_setIfInBounds,if_pos rfl,if_pos (by omega)]
  ·rw [Array.getElem?_setIfInBounds,if_pos rfl,if_pos (by simp;omega)]
 ·rw [if_neg e] at hg
  obtain ⟨A',c',e1,e2,e3,e4⟩:=h3 i g hg
  refine ⟨A',c',?_,?_,e3,(e4.mono fun k hk _=>hS k hk).same hsame⟩
  ·rw [Array.getElem?_setIfInBounds,if_neg (by omega),Array.getElem?_setIfInBounds,if_neg (by omega)];exact e1
  ·rw [Array.getElem?_setIfInBounds,if_neg (by omega),Array.getElem?_setIfInBounds,if_neg (by omega)];exact e2
end Go.Proofs.Ytdboloabpjmgaaa

namespace Go.Proofs.Ytdboloabpjmgaaa
open Go.RowKit Go.Proofs.YtdboloabpjmgaaaW.PrintWords Go.RegionInvYtdboloabpjmgaaa Go.RegionEYtdboloabpjmgaaa
set_option linter.unusedVariables false

def in_ops:List Oper:=[
 { dst:=some 24,op:=Go.Op.load 99 (Go.Operand.tmp 3),type:=99,pos:= "level.go:280",after:=#[],guard:=none },
 { dst:=some 25,op:=Go.Op.fieldAddr 25 (Go.Operand.tmp 4) 1,type:=0,pos:= "level.go:280",after:=#[],guard:=none },
 { dst:=some 26,op:=Go.Op.load 3 (Go.Operand.tmp 25),type:=3,pos:= "level.go:280",after:=#[{ on:=1,ground:=Go.Ground.data }],guard:=none },
 { dst:=some 27,op:=Go.Op.load 23 (Go.Operand.tmp 2),type:=23,pos:= "level.go:280",after:=#[],guard:=none },
 { dst:=some 28,op:=Go.Op.fieldAddr 25 (Go.Operand.tmp 4) 1,type:=0,pos:= "level.go:280",after:=#[],guard:=none },
 { dst:=some 29,op:=Go.Op.load 3 (Go.Operand.tmp 28),type:=3,pos:= "level.go:280",after:=#[{ on:=4,ground:=Go.Ground.data }],guard:=none },
 { dst:=some 30,op:=Go.Op.indexAddr 23 (Go.Operand.tmp 27) (Go.Operand.tmp 29),type:=0,pos:= "level.go:280",after:=#[{ on:=3,ground:=Go.Ground.data },{ on:=5,ground:=Go.Ground.data }],guard:=none },
 { dst:=some 31,op:=Go.Op.load 25 (Go.Operand.tmp 30),type:=25,pos:= "level.go:280",after:=#[{ on:=6,ground:=Go.Ground.data }],guard:=none },
 { dst:=some 32,op:=Go.Op.call { callee:=Go.Callee.value (Go.Operand.func 112),args:=#[Go.Operand.tmp 31,Go.Operand.const (Go.Value.slice none 0 0)],argTypes:=#[25,99] },type:=102,pos:= "level.go:280",after:=#[{ on:=7,ground:=Go.Ground.data }],guard:=none },
 { dst:=some 33,op:=Go.Op.indexAddr 99 (Go.Operand.tmp 24) (Go.Operand.tmp 26),type:=0,pos:= "level.go:280",after:=#[{ on:=0,ground:=Go.Ground.data },{ on:=2,ground:=Go.Ground.data },{ on:=0,ground:=Go.Ground.phase },{ on:=1,ground:=Go.Ground.phase },{ on:=2,ground:=Go.Ground.phase },{ on:=3,ground:=Go.Ground.phase },{ on:=4,ground:=Go.Ground.phase },{ on:=5,ground:=Go.Ground.phase },{ on:=6,ground:=Go.Ground.phase },{ on:=7,ground:=Go.Ground.phase },{ on:=8,ground:=Go.Ground.phase }],guard:=none },
 { dst:=none,op:=Go.Op.store 102 (Go.Operand.tmp 33) (Go.Operand.tmp 32),type:=0,pos:= "level.go:280",after:=#[{ on:=9,ground:=Go.Ground.data },{ on:=8,ground:=Go.Ground.data },{ on:=8,ground:=Go.Ground.chain },{ on:=0,ground:=Go.Ground.phase },{ on:=1,ground:=Go.Ground.phase },{ on:=2,ground:=Go.Ground.phase },{ on:=3,ground:=Go.Ground.phase },{ on:=4,ground:=Go.Ground.phase },{ on:=5,ground:=Go.Ground.phase },{ on:=6,ground:=Go.Ground.phase },{ on:=7,ground:=Go.Ground.phase },{ on:=8,ground:=Go.Ground.phase }],guard:=none }]
def in_F (w0:World) (bx gi G p b0 o0 nv cv n m0 c0:Nat) (A0 Ax:Option Addr) (cx:Nat) (x:Lv) (fs:List Nf):Nat→(Nat→Value)→Value→World→(Nat→Prop)→Prop:=fun rix=>match rix with
 | 0=>fun _ v _ _=>v=.slice (some ⟨G,0,none⟩) nv nv
 | 1=>fun _ v _ _=>v=.pointer (some ⟨p,1,none⟩)
 | 2=>fun _ v _ _=>v=.int .i64 n
 | 3=>fun _ v _ _=>v=.slice (some ⟨b0,o0,none⟩) nv cv
 | 4=>fun _ v _ _=>v=.pointer (some ⟨p,1,none⟩)
 | 5=>fun _ v _ _=>v=.int .i64 n
 | 6=>fun _ v _ _=>v=.pointer (some ⟨b0,o0+n * 3,none⟩)
 | 7=>fun _ v _ _=>v=.agg #[.int .i64 x.kind,.int .i64 x.num,.slice Ax x.kids.length cx]
 | 8=>fun τ v w O=>NfV (fun _=>False) (sumP x) v w O
 | 9=>fun _ v _ _=>v=.pointer (some ⟨G,n * 2,none⟩)
 | 10=>fun τ v w O=>InAt w (fun k=>(fun k=>G<k∧k<w0.heap.size) k∨(O k∧¬ k=G)) G (fs.set n (sumP x))∧O G
 | _=>fun _ _ _ _=>True
def in_C:Nat→List Nat:=fun rix=>match rix with
 | 10=>[8]
 | _=>[]
theorem in_nw2:nwB in_ops.toArray 2=true:=by kernel_rfl
theorem in_nw3:nwB in_ops.toArray 3=true:=by kernel_rfl
theorem in_nw4:nwB in_ops.toArray 4=true:=by kernel_rfl
set_option maxRecDepth 100000 in
set_option maxHeartbeats 8000000 in
theorem in_obs (w0:World) (bx gi G p b0 o0 nv cv n m0 c0:Nat) (A0 Ax:Option Addr) (cx:Nat) (x:Lv) (fs:List Nf) (hx2:w0.heap[bx]?=some (.cells #[.slice (some ⟨b0,o0,none⟩) nv cv] 23 (0,0))) (hx3:w0.heap[gi]?=some (.cells #[.slice (some ⟨G,0,none⟩) nv nv] 99 (0,0))) (hx4:w0.heap[p]?=some (.cells #[.int .i64 2,.int .i64 n,.slice A0 m0 c0] 25 (0,0))) (hbG:¬ bx=G) (hgG:¬ gi=G) (hpG:¬ p=G) (hb0:b0<w0.heap.size) (hb0G:¬ b0=G) (hc0:w0.cell? ⟨b0,o0+n * 3,none⟩=some (.int .i64 x.kind)) (hc1:w0.cell? ⟨b0,o0+n * 3+1,none⟩=some (.int .i64 x.num)) (hc2:w0.cell? ⟨b0,o0+n * 3+2,none⟩=some (.slice Ax x.kids.length cx)) (hx:LvS w0 (fun k=>k<w0.heap.size∧¬ k=G) Ax cx x) (hs:soundB x=true) (hin:InAt w0 (fun k=>G<k∧k<w0.heap.size) G fs) (hn:n<nv) (hl:fs.length=nv) (Q:Exit→Act→World→Prop) (a0:Act) (hi2:a0.tmps.getD 2 undef=.pointer (some ⟨bx,0,none⟩)) (hi3:a0.tmps.getD 3 undef=.pointer (some ⟨gi,0,none⟩)) (hi4:a0.tmps.getD 4 undef=.pointer (some ⟨p,0,none⟩)) :
  ObsE Try.prog in_ops.toArray Q (est2 10 0 (fun k=>k=G) (fun _=>False)) in_C (in_F w0 bx gi G p b0 o0 nv cv n m0 c0 A0 Ax cx x fs) a0 w0 in_ops.toArray.toList 0:=by
 have nw2:=in_nw2
 have nw3:=in_nw3
 have nw4:=in_nw4
 refine ⟨?_,?_,?_,?_,?_,?_,?_,?_,?_,?_,?_,trivial⟩
 ·refine ⟨⟨fun τ=>stableE_det _,leans_not⟩,?_⟩
  intro a w O hk
  have e3:a.eval (.tmp 3)=.pointer (some ⟨gi,0,none⟩):=(hk.init 3 (initialB_of_nw nw3)).trans hi3
  have x2:=hk.world.still hx2 (fun ⟨_,h⟩=>h.elim (fun h=>hbG h.2) And.right)
  have x3:=hk.world.still hx3 (fun ⟨_,h⟩=>h.elim (fun h=>hgG h.2) And.right)
  have x4:=hk.world.still hx4 (fun ⟨_,h⟩=>h.elim (fun h=>hpG h.2) And.right)
  obtain ⟨p0,p1,p2,-,-,-⟩:=row3 x4
  have r2:w.cell? ⟨bx,0,none⟩=some (.slice (some ⟨b0,o0,none⟩) nv cv):=by rw [cell_of_row _ _ _ _ _ _ x2];rfl
  have r3:w.cell? ⟨gi,0,none⟩=some (.slice (some ⟨G,0,none⟩) nv nv):=by rw [cell_of_row _ _ _ _ _ _ x3];rfl
  have hcc:∀ j,w.cell? ⟨b0,j,none⟩=w0.cell? ⟨b0,j,none⟩:=fun j=>cell_same (hk.fix _ (est2_fix hb0 (fun h=>hb0G h) (fun h=>h)))
  have q0:=(hcc _).trans hc0
  have q1:=(hcc _).trans hc1
  have q2:=(hcc _).trans hc2
  exact obE_run (wanted_none rfl) (by unfold execOp;simp only [];rw [e3];go_simp) rfl
 ·refine ⟨⟨fun τ=>stableE_det _,leans_not⟩,?_⟩
  intro a w O hk
  have e4:a.eval (.tmp 4)=.pointer (some ⟨p,0,none⟩):=(hk.init 4 (initialB_of_nw nw4)).trans hi4
  exact obE_run (wanted_none rfl) (by unfold execOp;simp only [];rw [e4];go_simp) rfl
 ·refine ⟨⟨fun τ=>stableE_det _,leans_not⟩,?_⟩
  intro a w O hk
  have e25:a.eval (.tmp 25)=.pointer (some ⟨p,1,none⟩):=hk.fact 1 _ 25 rfl rfl rfl rfl
  have x2:=hk.world.still hx2 (fun ⟨_,h⟩=>h.elim (fun h=>hbG h.2) And.right)
  have x3:=hk.world.still hx3 (fun ⟨_,h⟩=>h.elim (fun h=>hgG h.2) And.right)
  have x4:=hk.world.still hx4 (fun ⟨_,h⟩=>h.elim (fun h=>hpG h.2) And.right)
  obtain ⟨p0,p1,p2,-,-,-⟩:=row3 x4
  have r2:w.cell? ⟨bx,0,none⟩=some (.slice (some ⟨b0,o0,none⟩) nv cv):=by rw [cell_of_row _ _ _ _ _ _ x2];rfl
  have r3:w.cell? ⟨gi,0,none⟩=some (.slice (some ⟨G,0,none⟩) nv nv):=by rw [cell_of_row _ _ _ _ _ _ x3];rfl
  have hcc:∀ j,w.cell? ⟨b0,j,none⟩=w0.cell? ⟨b0,j,none⟩:=fun j=>cell_same (hk.fix _ (est2_fix hb0 (fun h=>hb0G h) (fun h=>h)))
  have q0:=(hcc _).trans hc0
  have q1:=(hcc _).trans hc1
  have q2:=(hcc _).trans hc2
  exact obE_run (wanted_none rfl) (by unfold execOp;simp only [];rw [e25];go_simp) rfl
 ·refine ⟨⟨fun τ=>stableE_det _,leans_not⟩,?_⟩
  intro a w O hk
  have e2:a.eval (.tmp 2)=.pointer (some ⟨bx,0,none⟩):=(hk.init 2 (initialB_of_nw nw2)).trans hi2
  have x2:=hk.world.still hx2 (fun ⟨_,h⟩=>h.elim (fun h=>hbG h.2) And.right)
  have x3:=hk.world.still hx3 (fun ⟨_,h⟩=>h.elim (fun h=>hgG h.2) And.right)
  have x4:=hk.world.still hx4 (fun ⟨_,h⟩=>h.elim (fun h=>hpG h.2) And.right)
  obtain ⟨p0,p1,p2,-,-,-⟩:=row3 x4
  have r2:w.cell? ⟨bx,0,none⟩=some (.slice (some ⟨b0,o0,none⟩) nv cv):=by rw [cell_of_row _ _ _ _ _ _ x2];rfl
  have r3:w.cell? ⟨gi,0,none⟩=some (.slice (some ⟨G,0,none⟩) nv nv):=by rw [cell_of_row _ _ _ _ _ _ x3];rfl
  have hcc:∀ j,w.cell? ⟨b0,j,none⟩=w0.cell? ⟨b0,j,none⟩:=fun j=>cell_same (hk.fix _ (est2_fix hb0 (fun h=>hb0G h) (fun h=>h)))
  have q0:=(hcc _).trans hc0
  have q1:=(hcc _).trans hc1
  have q2:=(hcc _).trans hc2
  exact obE_run (wanted_none rfl) (by unfold execOp;simp only [];rw [e2];go_simp) rfl
 ·refine ⟨⟨fun τ=>stableE_det _,leans_not⟩,?_⟩
  intro a w O hk
  have e4:a.eval (.tmp 4)=.pointer (some ⟨p,0,none⟩):=(hk.init 4 (initialB_of_nw nw4)).trans hi4
  exact obE_run (wanted_none rfl) (by unfold execOp;simp only [];rw [e4];go_simp) rfl
 ·refine ⟨⟨fun τ=>stableE_det _,leans_not⟩,?_⟩
  intro a w O hk
  have e28:a.eval (.tmp 28)=.pointer (some ⟨p,1,none⟩):=hk.fact 4 _ 28 rfl rfl rfl rfl
  have x2:=hk.world.still hx2 (fun ⟨_,h⟩=>h.elim (fun h=>hbG h.2) And.right)
  have x3:=hk.world.still hx3 (fun ⟨_,h⟩=>h.elim (fun h=>hgG h.2) And.right)
  have x4:=hk.world.still hx4 (fun ⟨_,h⟩=>h.elim (fun h=>hpG h.2) And.right)
  obtain ⟨p0,p1,p2,-,-,-⟩:=row3 x4
  have r2:w.cell? ⟨bx,0,none⟩=some (.slice (some ⟨b0,o0,none⟩) nv cv):=by rw [cell_of_row _ _ _ _ _ _ x2];rfl
  have r3:w.cell? ⟨gi,0,none⟩=some (.slice (some ⟨G,0,none⟩) nv nv):=by rw [cell_of_row _ _ _ _ _ _ x3];rfl
  have hcc:∀ j,w.cell? ⟨b0,j,none⟩=w0.cell? ⟨b0,j,none⟩:=fun j=>cell_same (hk.fix _ (est2_fix hb0 (fun h=>hb0G h) (fun h=>h)))
  have q0:=(hcc _).trans hc0
  have q1:=(hcc _).trans hc1
  have q2:=(hcc _).trans hc2
  exact obE_run (wanted_none rfl) (by unfold execOp;simp only [];rw [e28];go_simp) rfl
 ·refine ⟨⟨fun τ=>stableE_det _,leans_not⟩,?_⟩
  intro a w O hk
  have e27:a.eval (.tmp 27)=.slice (some ⟨b0,o0,none⟩) nv cv:=hk.fact 3 _ 27 rfl rfl rfl rfl
  have e29:a.eval (.tmp 29)=.int .i64 n:=hk.fact 5 _ 29 rfl rfl rfl rfl
  have x2:=hk.world.still hx2 (fun ⟨_,h⟩=>h.elim (fun h=>hbG h.2) And.right)
  have x3:=hk.world.still hx3 (fun ⟨_,h⟩=>h.elim (fun h=>hgG h.2) And.right)
  have x4:=hk.world.still hx4 (fun ⟨_,h⟩=>h.elim (fun h=>hpG h.2) And.right)
  obtain ⟨p0,p1,p2,-,-,-⟩:=row3 x4
  have r2:w.cell? ⟨bx,0,none⟩=some (.slice (some ⟨b0,o0,none⟩) nv cv):=by rw [cell_of_row _ _ _ _ _ _ x2];rfl
  have r3:w.cell? ⟨gi,0,none⟩=some (.slice (some ⟨G,0,none⟩) nv nv):=by rw [cell_of_row _ _ _ _ _ _ x3];rfl
  have hcc:∀ j,w.cell? ⟨b0,j,none⟩=w0.cell? ⟨b0,j,none⟩:=fun j=>cell_same (hk.fix _ (est2_fix hb0 (fun h=>hb0G h) (fun h=>h)))
  have q0:=(hcc _).trans hc0
  have q1:=(hcc _).trans hc1
  have q2:=(hcc _).trans hc2
  exact obE_run (wanted_none rfl) (by unfold execOp;simp only [];rw [e27,e29];go_simp) rfl
 ·refine ⟨⟨fun τ=>stableE_det _,leans_not⟩,?_⟩
  intro a w O hk
  have e30:a.eval (.tmp 30)=.pointer (some ⟨b0,o0+n * 3,none⟩):=hk.fact 6 _ 30 rfl rfl rfl rfl
  have x2:=hk.world.still hx2 (fun ⟨_,h⟩=>h.elim (fun h=>hbG h.2) And.right)
  have x3:=hk.world.still hx3 (fun ⟨_,h⟩=>h.elim (fun h=>hgG h.2) And.right)
  have x4:=hk.world.still hx4 (fun ⟨_,h⟩=>h.elim (fun h=>hpG h.2) And.right)
  obtain ⟨p0,p1,p2,-,-,-⟩:=row3 x4
  have r2:w.cell? ⟨bx,0,none⟩=some (.slice (some ⟨b0,o0,none⟩) nv cv):=by rw [cell_of_row _ _ _ _ _ _ x2];rfl
  have r3:w.cell? ⟨gi,0,none⟩=some (.slice (some ⟨G,0,none⟩) nv nv):=by rw [cell_of_row _ _ _ _ _ _ x3];rfl
  have hcc:∀ j,w.cell? ⟨b0,j,none⟩=w0.cell? ⟨b0,j,none⟩:=fun j=>cell_same (hk.fix _ (est2_fix hb0 (fun h=>hb0G h) (fun h=>h)))
  have q0:=(hcc _).trans hc0
  have q1:=(hcc _).trans hc1
  have q2:=(hcc _).trans hc2
  exact obE_run (wanted_none rfl) (by unfold execOp;simp only [];rw [e30];go_simp) rfl
 ·refine ⟨⟨fun τ=>stableE_nf (fun k hk'=>hk'.elim),leans_not⟩,?_⟩
  intro a w O hk
  have e31:a.eval (.tmp 31)=.agg #[.int .i64 x.kind,.int .i64 x.num,.slice Ax x.kids.length cx]:=hk.fact 7 _ 31 rfl rfl rfl rfl
  have x2:=hk.world.still hx2 (fun ⟨_,h⟩=>h.elim (fun h=>hbG h.2) And.right)
  have x3:=hk.world.still hx3 (fun ⟨_,h⟩=>h.elim (fun h=>hgG h.2) And.right)
  have x4:=hk.world.still hx4 (fun ⟨_,h⟩=>h.elim (fun h=>hpG h.2) And.right)
  obtain ⟨p0,p1,p2,-,-,-⟩:=row3 x4
  have r2:w.cell? ⟨bx,0,none⟩=some (.slice (some ⟨b0,o0,none⟩) nv cv):=by rw [cell_of_row _ _ _ _ _ _ x2];rfl
  have r3:w.cell? ⟨gi,0,none⟩=some (.slice (some ⟨G,0,none⟩) nv nv):=by rw [cell_of_row _ _ _ _ _ _ x3];rfl
  have hcc:∀ j,w.cell? ⟨b0,j,none⟩=w0.cell? ⟨b0,j,none⟩:=fun j=>cell_same (hk.fix _ (est2_fix hb0 (fun h=>hb0G h) (fun h=>h)))
  have q0:=(hcc _).trans hc0
  have q1:=(hcc _).trans hc1
  have q2:=(hcc _).trans hc2
  have hlx:=(hx.same (fun k hk' _=>hk.fix k ((fun k hk'=>est2_fix hk'.1 (fun h=>hk'.2 h) (fun h=>h)) k hk')))
  refine obE_callNew #[.agg #[.int .i64 x.kind,.int .i64 x.num,.slice Ax x.kids.length cx],.slice none 0 0] rfl rfl rfl rfl (by simp only [List.map_cons,List.map_nil];rw [e31];rfl) (wanted_none rfl) ((of_nil_calls x hs Ax cx w (LvS.all hlx)).mono ?_)
  intro e w' h
  exact NfV.of_got h
 ·refine ⟨⟨fun τ=>stableE_det _,leans_not⟩,?_⟩
  intro a w O hk
  have e24:a.eval (.tmp 24)=.slice (some ⟨G,0,none⟩) nv nv:=hk.fact 0 _ 24 rfl rfl rfl rfl
  have e26:a.eval (.tmp 26)=.int .i64 n:=hk.fact 2 _ 26 rfl rfl rfl rfl
  have x2:=hk.world.still hx2 (fun ⟨_,h⟩=>h.elim (fun h=>hbG h.2) And.right)
  have x3:=hk.world.still hx3 (fun ⟨_,h⟩=>h.elim (fun h=>hgG h.2) And.right)
  have x4:=hk.world.still hx4 (fun ⟨_,h⟩=>h.elim (fun h=>hpG h.2) And.right)
  obtain ⟨p0,p1,p2,-,-,-⟩:=row3 x4
  have r2:w.cell? ⟨bx,0,none⟩=some (.slice (some ⟨b0,o0,none⟩) nv cv):=by rw [cell_of_row _ _ _ _ _ _ x2];rfl
  have r3:w.cell? ⟨gi,0,none⟩=some (.slice (some ⟨G,0,none⟩) nv nv):=by rw [cell_of_row _ _ _ _ _ _ x3];rfl
  have hcc:∀ j,w.cell? ⟨b0,j,none⟩=w0.cell? ⟨b0,j,none⟩:=fun j=>cell_same (hk.fix _ (est2_fix hb0 (fun h=>hb0G h) (fun h=>h)))
  have q0:=(hcc _).trans hc0
  have q1:=(hcc _).trans hc1
  have q2:=(hcc _).trans hc2
  exact obE_run (wanted_none rfl) (by unfold execOp;simp only [];rw [e24,e26];go_simp) rfl
 ·refine ⟨⟨fun τ=>fun v w w' O h hz hk'=>⟨InAt.same h.1 (hk' G h.1.lt (.inr h.2)) (fun k hk2 hz2=>hk' k hz2 (hk2.imp ((fun k hk'=>fix_in hk') k) And.left)),h.2⟩,leans_not⟩,?_⟩
  intro a w O hk
  have e33:a.eval (.tmp 33)=.pointer (some ⟨G,n * 2,none⟩):=hk.fact 9 _ 33 rfl rfl rfl rfl
  have f32:=hk.fact 8 _ 32 rfl rfl rfl rfl
  have g32:=hk.owns 8 rfl rfl
  have x2:=hk.world.still hx2 (fun ⟨_,h⟩=>h.elim (fun h=>hbG h.2) And.right)
  have x3:=hk.world.still hx3 (fun ⟨_,h⟩=>h.elim (fun h=>hgG h.2) And.right)
  have x4:=hk.world.still hx4 (fun ⟨_,h⟩=>h.elim (fun h=>hpG h.2) And.right)
  obtain ⟨p0,p1,p2,-,-,-⟩:=row3 x4
  have r2:w.cell? ⟨bx,0,none⟩=some (.slice (some ⟨b0,o0,none⟩) nv cv):=by rw [cell_of_row _ _ _ _ _ _ x2];rfl
  have r3:w.cell? ⟨gi,0,none⟩=some (.slice (some ⟨G,0,none⟩) nv nv):=by rw [cell_of_row _ _ _ _ _ _ x3];rfl
  have hcc:∀ j,w.cell? ⟨b0,j,none⟩=w0.cell? ⟨b0,j,none⟩:=fun j=>cell_same (hk.fix _ (est2_fix hb0 (fun h=>hb0G h) (fun h=>h)))
  have q0:=(hcc _).trans hc0
  have q1:=(hcc _).trans hc1
  have q2:=(hcc _).trans hc2
  have hin':InAt w (fun k=>(fun k=>G<k∧k<w0.heap.size) k) G fs:=InAt.same hin (hk.est 10 _ rfl (.inl rfl) G (.inl ⟨rfl,rfl⟩)) (fun k hk' hz=>hk.fix k ((fun k hk'=>fix_in hk') k hk'))
  obtain ⟨y,A',m',c',z0,z1,y0,y1⟩:=hin'.cells (n:=n) (by omega)
  obtain ⟨A,m,cap,e32,h1,h2⟩:=f32
  have hm:=h2.1.1
  refine obE_store (w':=(w.setCell ⟨G,n * 2,none⟩ (.int .i64 (sumP x).1)).setCell ⟨G,n * 2+1,none⟩ (.slice A m cap)) (fun k=>k=G∨O 8 k) (wanted_none rfl) (by unfold execOp;simp only [];rw [e33,show a.eval (.tmp 32)=_ from e32];go_simp) ((chg_pair w G _ _ _ _).mono fun k h=>.inr (.inl ⟨rfl,h⟩)) ⟨hin'.put (by omega) hm.symm h1 (h2.mono fun k hk' _=>.inr <| hk'.elim False.elim fun h'=>⟨.inr h',fun e=>hk.away 10 8 _ rfl (.inl rfl) rfl rfl G (.inl ⟨rfl,rfl⟩) (e ▸ h')⟩) (fun k h=>.inl h) (fun h=>h.elim (fun h=>by have:=h.1;omega) fun h=>h.2 rfl),.inl rfl⟩ (fun k h=>.inl ?_)
  exact h.elim (fun h=>.inr (.inl ⟨rfl,h⟩)) fun h=>.inl ⟨8,by simp [in_C],h⟩
set_option maxRecDepth 100000 in
set_option maxHeartbeats 8000000 in
theorem in_region {Q:Exit→Act→World→Prop} {id:Nat} (w0:World) (bx gi G p b0 o0 nv cv n m0 c0:Nat) (A0 Ax:Option Addr) (cx:Nat) (x:Lv) (fs:List Nf) {s0 s1 s5 s6 s7 s8 s9 s10 s11 s12 s13 s14 s15 s16 s17 s18 s19 s20 s21 s22 s23 s24 s25 s26 s27 s28 s29 s30 s31 s32 s33:Value} (hx2:w0.heap[bx]?=some (.cells #[.slice (some ⟨b0,o0,none⟩) nv cv] 23 (0,0))) (hx3:w0.heap[gi]?=some (.cells #[.slice (some ⟨G,0,none⟩) nv nv] 99 (0,0))) (hx4:w0.heap[p]?=some (.cells #[.int .i64 2,.int .i64 n,.slice A0 m0 c0] 25 (0,0))) (hbG:¬ bx=G) (hgG:¬ gi=G) (hpG:¬ p=G) (hb0:b0<w0.heap.size) (hb0G:¬ b0=G) (hc0:w0.cell? ⟨b0,o0+n * 3,none⟩=some (.int .i64 x.kind)) (hc1:w0.cell? ⟨b0,o0+n * 3+1,none⟩=some (.int .i64 x.num)) (hc2:w0.cell? ⟨b0,o0+n * 3+2,none⟩=some (.slice Ax x.kids.length cx)) (hx:LvS w0 (fun k=>k<w0.heap.size∧¬ k=G) Ax cx x) (hs:soundB x=true) (hin:InAt w0 (fun k=>G<k∧k<w0.heap.size) G fs) (hn:n<nv) (hl:fs.length=nv)
  (hend:∀ (w':World) (u32:Value) (v10:Value) (O10:Nat→Prop),Chg (fun k=>(fun k=>k=G) k∨(fun _=>False) k) w0 w'→(InAt w' (fun k=>(fun k=>G<k∧k<w0.heap.size) k∨(O10 k∧¬ k=G)) G (fs.set n (sumP x))∧O10 G)→(∀ k,O10 k→k<w'.heap.size∧¬ Fix w0 (est2 10 0 (fun k=>k=G) (fun _=>False)) k)→Q .normal { tmps:=(s0 :: s1 :: (.pointer (some ⟨bx,0,none⟩)) :: (.pointer (some ⟨gi,0,none⟩)) :: (.pointer (some ⟨p,0,none⟩)) :: s5 :: s6 :: s7 :: s8 :: s9 :: s10 :: s11 :: s12 :: s13 :: s14 :: s15 :: s16 :: s17 :: s18 :: s19 :: s20 :: s21 :: s22 :: s23 :: (.slice (some ⟨G,0,none⟩) nv nv) :: (.pointer (some ⟨p,1,none⟩)) :: (.int .i64 n) :: (.slice (some ⟨b0,o0,none⟩) nv cv) :: (.pointer (some ⟨p,1,none⟩)) :: (.int .i64 n) :: (.pointer (some ⟨b0,o0+n * 3,none⟩)) :: (.agg #[.int .i64 x.kind,.int .i64 x.num,.slice Ax x.kids.length cx]) :: u32 :: (.pointer (some ⟨G,n * 2,none⟩)) :: []:List Value).toArray,defers:=[] } w') :
  (Code.region id in_ops.toArray true).wp Try.prog Q { tmps:=(s0 :: s1 :: (.pointer (some ⟨bx,0,none⟩)) :: (.pointer (some ⟨gi,0,none⟩)) :: (.pointer (some ⟨p,0,none⟩)) :: s5 :: s6 :: s7 :: s8 :: s9 :: s10 :: s11 :: s12 :: s13 :: s14 :: s15 :: s16 :: s17 :: s18 :: s19 :: s20 :: s21 :: s22 :: s23 :: s24 :: s25 :: s26 :: s27 :: s28 :: s29 :: s30 :: s31 :: s32 :: s33 :: []:List Value).toArray,defers:=[] } w0:=by
 refine wp_region_est (by kernel_rfl) (est2 10 0 (fun k=>k=G) (fun _=>False)) in_C (in_F w0 bx gi G p b0 o0 nv cv n m0 c0 A0 Ax cx x fs) (est2_dis (fun k h1 h2=>h2)) (est2_range (fun k h=>by have:=hin.lt;omega) (fun k h=>h.elim)) (by rfl) (by kernel_rfl) (in_obs w0.drew bx gi G p b0 o0 nv cv n m0 c0 A0 Ax cx x fs hx2 hx3 hx4 hbG hgG hpG hb0 hb0G hc0 hc1 hc2 (LvS.later hx (below_drew (Below.refl _ _))) hs (hin.same rfl fun _ _ _=>rfl) hn hl _ _ rfl rfl rfl) ?_
 intro a w' O hd hs hb hf hf2 ha hsame
 have hl:=slots_eq (ops:=in_ops.toArray) [(24,.slice (some ⟨G,0,none⟩) nv nv),(25,.pointer (some ⟨p,1,none⟩)),(26,.int .i64 n),(27,.slice (some ⟨b0,o0,none⟩) nv cv),(28,.pointer (some ⟨p,1,none⟩)),(29,.int .i64 n),(30,.pointer (some ⟨b0,o0+n * 3,none⟩)),(31,.agg #[.int .i64 x.kind,.int .i64 x.num,.slice Ax x.kids.length cx]),(32,a.tmps.getD 32 undef),(33,.pointer (some ⟨G,n * 2,none⟩))] (show a.tmps.size=34 from hs) (fun i h=>hsame i h) ⟨(hf 0 _ 24 rfl rfl (by decide)).1,(hf 1 _ 25 rfl rfl (by decide)).1,(hf 2 _ 26 rfl rfl (by decide)).1,(hf 3 _ 27 rfl rfl (by decide)).1,(hf 4 _ 28 rfl rfl (by decide)).1,(hf 5 _ 29 rfl rfl (by decide)).1,(hf 6 _ 30 rfl rfl (by decide)).1,(hf 7 _ 31 rfl rfl (by decide)).1,rfl,(hf 9 _ 33 rfl rfl (by decide)).1,trivial⟩ (by kernel_rfl)
 obtain ⟨tmps,defers⟩:=a
 obtain rfl:defers=[]:=hd
 have hl':tmps=_:=hl
 rw [hl']
 obtain ⟨⟨v10,hv10⟩,ho10⟩:=hf2 10 _ rfl rfl (by decide)
 have hb':=est2_chg hb
 refine Eq.mp ?_ (hend w' (tmps.getD 32 undef) v10 (O 10) ⟨hb'.os,hb'.tape,hb'.output,hb'.size,hb'.block⟩ hv10 ho10)
 kernel_rfl

end Go.Proofs.Ytdboloabpjmgaaa

namespace Go.Proofs.Ytdboloabpjmgaaa
open Go.RowKit Go.Proofs.YtdboloabpjmgaaaW.PrintWords Go.RegionInvYtdboloabpjmgaaa Go.RegionEYtdboloabpjmgaaa

theorem insvF_no {vs:List Lv} {k n:Int} {fs:List Nf} (h:¬ (k=2∧n<vs.length)):insvF vs k n fs=(0,fs):=if_neg h
theorem insvF_bad {vs:List Lv} {k n:Int} {fs:List Nf} (h:k=2∧n<vs.length) (hs:soundB (lvAt vs n)=false):insvF vs k n fs=(1,fs):=by
 unfold insvF;rw [if_pos h,if_neg (by rw [hs];decide)]
theorem insvF_ok {vs:List Lv} {k n:Int} {fs:List Nf} (h:k=2∧n<vs.length) (hs:soundB (lvAt vs n)=true):insvF vs k n fs=(0,fs.set n.toNat (sumP (lvAt vs n))):=by
 unfold insvF;rw [if_pos h,if_pos hs]
theorem lvAt_get {vs:List Lv} {i:Nat} {x:Lv} (h:vs[i]?=some x):lvAt vs i=x:=by
 unfold lvAt;rw [Int.toNat_natCast,List.getD_eq_getElem?_getD,h];rfl
def InPost (w:World) (G:Nat) (r:Int × List Nf) (e:Ending) (w':World):Prop:=e=.returned (.int .i64 r.1)∧InAt w' (fun k=>G<k) G r.2∧Chg (fun k=>k=G) w w'
structure InK (w:World) (bx gi G:Nat) (Av:Option Addr) (nv cv:Nat) (vs:List Lv):Prop where
 box:w.heap[bx]?=some (.cells #[.slice Av nv cv] 23 (0,0))
 row:w.heap[gi]?=some (.cells #[.slice (some ⟨G,0,none⟩) nv nv] 99 (0,0))
 ne:bx<G
 gi_:gi=G+1
 vs_:LvS w (fun k=>k<bx) Av cv (.mk 0 0 vs)
 len:nv=vs.length
theorem InK.later {w w':World} {bx gi G:Nat} {Av:Option Addr} {nv cv:Nat} {vs:List Lv} (h:InK w bx gi G Av nv cv vs) (hc:Chg (fun k=>k=G) w w'):InK w' bx gi G Av nv cv vs:=
 ⟨(hc.block _ (blk_lt h.box) (by have:=h.ne;omega)).trans h.box,(hc.block _ (blk_lt h.row) (by have:=h.gi_;omega)).trans h.row,h.ne,h.gi_,h.vs_.same fun k hk hz=>hc.block k hz (by have:=h.ne;omega),h.len⟩
theorem inAt_later {w w':World} {G:Nat} {fs:List Nf} (h:InAt w (fun k=>G<k) G fs) (hb:Below w.heap.size w w'):InAt w' (fun k=>G<k) G fs:=
 h.same (hb.block G h.lt) fun k _ hz=>hb.block k hz
theorem in_made {w0 w':World} {G:Nat} {O:Nat→Prop} {fs:List Nf} (h:InAt w' (fun k=>(G<k∧k<w0.heap.size)∨(O k∧¬ k=G)) G fs) (hG:G<w0.heap.size)
  (hO:∀ k,O k→k<w'.heap.size∧¬ Fix w0 (est2 10 0 (fun k=>k=G) (fun _=>False)) k):InAt w' (fun k=>G<k) G fs:=
 h.mono fun k hk _=>hk.elim And.left fun hk=>by
  by_cases hz:k<w0.heap.size
  ·exact absurd (est2_fix hz hk.2 (fun h=>h)) (hO k hk.1).2
  ·show G<k;omega
set_option maxHeartbeats 4000000 in
theorem linst1_calls (vs:List Lv) (Av:Option Addr) (nv cv:Nat) (k n:Int) (A:Option Addr) (m c:Nat) (d:Int) (bx gi G:Nat) (fs:List Nf) (w:World) (hK:InK w bx gi G Av nv cv vs) (hin:InAt w (fun k=>G<k) G fs) (hl:fs.length=nv) (hn0:0≤n∨k≠2) :
  Calls Try.prog 111 #[.agg #[.int .i64 k,.int .i64 n,.slice A m c],.int .i64 d,.pointer (some ⟨bx,0,none⟩),.pointer (some ⟨gi,0,none⟩)] w (InPost w G (insvF vs k n fs)):=by
 obtain ⟨w1,hw1⟩:∃ w1,w1=w.alloc (.cells #[.int .i64 k,.int .i64 n,.slice A m c] 25 (0,0)):=⟨_,rfl⟩
 have hb1:Below w.heap.size w w1:=by rw [hw1];exact below_alloc (Below.refl _ _) _
 have hx1:w1.heap[w.heap.size]?=some (.cells #[.int .i64 k,.int .i64 n,.slice A m c] 25 (0,0)):=by rw [hw1];exact blk_new w _
 have hC1:Chg (fun k=>k=G) w w1:=Chg.of_below hb1
 have hK1:InK w1 bx gi G Av nv cv vs:=hK.later hC1
 have hGz:=hin.lt
 have HIN:=Ak (inAt_later hin hb1)
 have HC:=Ak hC1
 have HK:=Ak hK1
 have HX:=Ak hx1
 have HL:=Ak hl
 have HN:=Ak hK.len
 have hr2:w1.cell? ⟨bx,0,none⟩=some (.slice Av nv cv):=by rw [cell_of_row _ _ _ _ _ _ hK1.box];rfl
 obtain ⟨p0,p1,p2,-,-,-⟩:=row3 hx1
 clear hK1 hx1 hl hK hin hb1 hC1
 go_enter Try.func111,Try.ntmps111
 go_upto_region 1 with (fail)
 rw [← hw1]
 clear hw1
 by_cases hk:k=2
 ·subst hk
  by_cases hn:n<nv
  ·obtain ⟨i,rfl⟩:=Int.eq_ofNat_of_zero_le (hn0.resolve_right fun h=>h rfl)
   have hi:i<nv:=by omega
   obtain ⟨x,hx⟩:∃ x,vs[i]?=some x:=⟨_,List.getElem?_eq_getElem (by rw [← HN.out];exact hi)⟩
   obtain ⟨Ax,cx,hcs,hlx⟩:=HK.out.vs_.kid i x hx
   obtain ⟨⟨b0,o0,sp⟩,rfl,hS,hsp,h1,h2,h3⟩:=hcs
   obtain rfl:sp=none:=hsp
   rw [add_flat] at h1 h2 h3
   have g2:w1.cell? ⟨b0,o0+i * 3+1,none⟩=some (.int .i64 x.num):=h2
   have g3:w1.cell? ⟨b0,o0+i * 3+2,none⟩=some (.slice Ax x.kids.length cx):=h3
   clear h2 h3
   have HX0:=Ak hlx
   have HLV:=Ak (lvAt_get hx)
   have hb0:b0<bx:=hS
   have hnb:decide ((nv:Int)≤(i:Int))=false:=decide_eq_false (by omega)
   clear hx hlx hS hn
   have HCN:=Ak (show (2:Int)=2∧(i:Int)<vs.length from ⟨rfl,by rw [← HN.out];omega⟩)
   cases hs:soundB x with
   | false =>
    have HS:=Ak hs
    have HE:=Ak (insvF_bad (fs:=fs) HCN.out (by rw [HLV.out];exact hs))
    clear hs
    go_wp2_with (go_at_call 109;go_must (refine (sound_calls Ax cx x _ (LvS.all HX0.out)).mono ?_;rintro e w2 ⟨rfl,hb⟩;rw [HS.out];have HIN2:=Ak (inAt_later HIN.out hb);have HC2:=Ak (chg_trans HC.out (Chg.of_below hb));clear hb))
    go_ret
    rw [HE.out]
    exact ⟨rfl,HIN2.out,HC2.out⟩
   | true =>
    have HS:=Ak hs
    have HE:=Ak (show insvF vs 2 (i:Int) fs=(0,fs.set i (sumP x)) by rw [insvF_ok (fs:=fs) HCN.out (by rw [HLV.out];exact hs),HLV.out,Int.toNat_natCast])
    clear hs
    have H1:=Ak h1
    have H2:=Ak g2
    have H3:=Ak g3
    have hb0z:=blk_lt HK.out.box
    go_upto_region 5 with (go_at_call 109;go_must (refine (sound_calls Ax cx x _ (LvS.all HX0.out)).mono ?_;rintro e w2 ⟨rfl,hb⟩;rw [HS.out];have hcc:∀ j,w2.cell? ⟨b0,j,none⟩=w1.cell? ⟨b0,j,none⟩:=fun j=>cell_same (hb.block b0 (by omega));have HIN2:=Ak (inAt_later HIN.out hb);have HC2:=Ak (chg_trans HC.out (Chg.of_below hb));have HK2:=Ak (HK.out.later (Chg.of_below hb));have HX2:=Ak (blk_below HX.out hb);have HX02:=Ak (HX0.out.later hb);have Q1:=Ak ((hcc _).trans H1.out);have Q2:=Ak ((hcc _).trans H2.out);have Q3:=Ak ((hcc _).trans H3.out);have hz2:=hb.size;clear hb hcc))
    have hne:=HK2.out.ne
    have hgi:=HK2.out.gi_
    have hbz:=blk_lt HK2.out.box
    have hz1:=blk_lt HX.out
    refine in_region w2 bx gi G w.heap.size b0 o0 nv cv i m c A Ax cx x fs HK2.out.box HK2.out.row HX2.out (by omega) (by omega) (by omega) (by omega) (by omega) Q1.out Q2.out Q3.out (HX02.out.mono fun k hk hz=>⟨hz,by omega⟩) HS.out (HIN2.out.mono fun k hk hz=>⟨hk,hz⟩) hi HL.out ?_
    rintro w6 u32 v10 O10 hch ⟨hia,-⟩ hO
    have HIN6:=Ak (in_made (w0:=w2) hia (by omega) hO)
    have HC6:=Ak (chg_trans HC2.out (hch.mono fun k h=>h.elim id False.elim))
    clear hia hO hch
    go_wp2
    go_ret
    rw [HE.out]
    exact ⟨rfl,HIN6.out,HC6.out⟩
  ·have HE:=Ak (insvF_no (vs:=vs) (k:=2) (n:=n) (fs:=fs) fun h=>hn (by rw [HN.out];exact h.2))
   have hnb:decide ((nv:Int)≤n)=true:=decide_eq_true (by omega)
   clear hn
   go_wp2
   go_ret
   rw [HE.out]
   exact ⟨rfl,HIN.out,HC.out⟩
 ·have HE:=Ak (insvF_no (vs:=vs) (k:=k) (n:=n) (fs:=fs) fun h=>hk h.1)
  have hkb:(k != 2)=true:=by simp [hk]
  clear hk
  go_wp2
  go_ret
  rw [HE.out]
  exact ⟨rfl,HIN.out,HC.out⟩
end Go.Proofs.Ytdboloabpjmgaaa
