/-
  Merged: NrR, Sim, SmR, SimC, Same, SameC, SlB, SeW, NrRl, Near, Men, EnU, RIG, Alik, LvIn, TmInT, TmInM, NiP, NiQ, OpsL, LvlW, InstP, NiL, TsR, Rev, SpiP, Spi, RSp, MkP, Raw, RAp.
-/
import Derived.Deep.Slices
import Derived.ChangeArms
import Derived.Deep.MidRow
import Derived.Test.YtdboloabpjmgaaaMMakes2
namespace Go.Proofs.Ytdboloabpjmgaaa
open Go.RowKit Go.Proofs.YtdboloabpjmgaaaW.PrintWords Go.RegionInvYtdboloabpjmgaaa Go.RegionEYtdboloabpjmgaaa
set_option linter.unusedVariables false

def nrn_ops:List Oper:=[
 { dst:=some 7,op:=Go.Op.fieldAddr 28 (Go.Operand.tmp 2) 0,type:=0,pos:= "law.go:62",after:=#[],guard:=none },
 { dst:=some 8,op:=Go.Op.load 3 (Go.Operand.tmp 7),type:=3,pos:= "law.go:62",after:=#[{ on:=0,ground:=Go.Ground.data }],guard:=none },
 { dst:=some 9,op:=Go.Op.fieldAddr 28 (Go.Operand.tmp 3) 0,type:=0,pos:= "law.go:62",after:=#[],guard:=none },
 { dst:=some 10,op:=Go.Op.load 3 (Go.Operand.tmp 9),type:=3,pos:= "law.go:62",after:=#[{ on:=2,ground:=Go.Ground.data }],guard:=none },
 { dst:=some 11,op:=Go.Op.binOp Go.BinOp.neq 3 (Go.Operand.tmp 8) (Go.Operand.tmp 10) 3,type:=4,pos:= "law.go:62",after:=#[{ on:=1,ground:=Go.Ground.data },{ on:=3,ground:=Go.Ground.data }],guard:=none },
 { dst:=some 12,op:=Go.Op.move (Go.Operand.tmp 11),type:=4,pos:= "law.go:62",after:=#[{ on:=4,ground:=Go.Ground.data }],guard:=none },
 { dst:=some 13,op:=Go.Op.load 28 (Go.Operand.tmp 2),type:=28,pos:= "law.go:62",after:=#[{ on:=5,ground:=Go.Ground.guard }],guard:=some (5,false) },
 { dst:=some 14,op:=Go.Op.call { callee:=Go.Callee.value (Go.Operand.func 77),args:=#[Go.Operand.tmp 13],argTypes:=#[28] },type:=4,pos:= "law.go:62",after:=#[{ on:=6,ground:=Go.Ground.data },{ on:=5,ground:=Go.Ground.chain },{ on:=5,ground:=Go.Ground.guard }],guard:=some (5,false) },
 { dst:=some 15,op:=Go.Op.load 28 (Go.Operand.tmp 3),type:=28,pos:= "law.go:62",after:=#[{ on:=5,ground:=Go.Ground.guard }],guard:=some (5,false) },
 { dst:=some 16,op:=Go.Op.call { callee:=Go.Callee.value (Go.Operand.func 77),args:=#[Go.Operand.tmp 15],argTypes:=#[28] },type:=4,pos:= "law.go:62",after:=#[{ on:=8,ground:=Go.Ground.data },{ on:=7,ground:=Go.Ground.chain },{ on:=5,ground:=Go.Ground.guard }],guard:=some (5,false) },
 { dst:=some 17,op:=Go.Op.binOp Go.BinOp.neq 4 (Go.Operand.tmp 14) (Go.Operand.tmp 16) 4,type:=4,pos:= "law.go:62",after:=#[{ on:=7,ground:=Go.Ground.data },{ on:=9,ground:=Go.Ground.data },{ on:=5,ground:=Go.Ground.guard }],guard:=some (5,false) },
 { dst:=some 18,op:=Go.Op.pick (Go.Operand.tmp 12) (Go.Operand.const (Go.Value.bool true)) (Go.Operand.tmp 17),type:=4,pos:= "law.go:62",after:=#[{ on:=5,ground:=Go.Ground.data },{ on:=10,ground:=Go.Ground.data }],guard:=none }]
def nrn_F (w0:World) (g h:Nat) (p q:Pl) (t u:Tm):Nat→(Nat→Value)→Value→World→(Nat→Prop)→Prop:=fun rix=>match rix with
 | 0=>fun _ v _ _=>v=.pointer (some ⟨g,0,none⟩)
 | 1=>fun _ v _ _=>v=.int .i64 t.kind
 | 2=>fun _ v _ _=>v=.pointer (some ⟨h,0,none⟩)
 | 3=>fun _ v _ _=>v=.int .i64 u.kind
 | 4=>fun _ v _ _=>v=.bool true
 | 5=>fun _ v _ _=>v=.bool true
 | 6=>fun _ v _ _=>v=undef
 | 7=>fun _ v _ _=>v=undef
 | 8=>fun _ v _ _=>v=undef
 | 9=>fun _ v _ _=>v=undef
 | 10=>fun _ v _ _=>v=undef
 | 11=>fun _ v _ _=>v=.bool true
 | _=>fun _ _ _ _=>True
def nrn_C:Nat→List Nat:=fun rix=>match rix with
 | _=>[]
theorem nrn_nw2:nwB nrn_ops.toArray 2=true:=by kernel_rfl
theorem nrn_nw3:nwB nrn_ops.toArray 3=true:=by kernel_rfl
set_option maxRecDepth 100000 in
set_option maxHeartbeats 8000000 in
theorem nrn_obs (w0:World) (g h:Nat) (p q:Pl) (t u:Tm) (hx2:w0.heap[g]?=some (tmO p t)) (hx3:w0.heap[h]?=some (tmO q u)) (hkk:t.kind≠u.kind) (Q:Exit→Act→World→Prop) (a0:Act) (hi2:a0.tmps.getD 2 undef=.pointer (some ⟨g,0,none⟩)) (hi3:a0.tmps.getD 3 undef=.pointer (some ⟨h,0,none⟩)) :
  ObsE Try.prog nrn_ops.toArray Q (est2 0 0 (fun _=>False) (fun _=>False)) nrn_C (nrn_F w0 g h p q t u) a0 w0 nrn_ops.toArray.toList 0:=by
 have nw2:=nrn_nw2
 have nw3:=nrn_nw3
 refine ⟨?_,?_,?_,?_,?_,?_,?_,?_,?_,?_,?_,?_,trivial⟩
 ·refine ⟨⟨fun τ=>stableE_det _,leans_not⟩,?_⟩
  intro a w O hk
  have e2:a.eval (.tmp 2)=.pointer (some ⟨g,0,none⟩):=(hk.init 2 (initialB_of_nw nw2)).trans hi2
  exact obE_run (wanted_none rfl) (by unfold execOp;simp only [];rw [e2];go_simp) rfl
 ·refine ⟨⟨fun τ=>stableE_det _,leans_not⟩,?_⟩
  intro a w O hk
  have e7:a.eval (.tmp 7)=.pointer (some ⟨g,0,none⟩):=hk.fact 0 _ 7 rfl rfl rfl rfl
  have x2:=hk.world.still hx2 (fun ⟨_,h⟩=>h.elim And.right And.right)
  obtain ⟨p0,p1,p2,p3,p4,p5,p6,p7⟩:=row8 x2
  exact obE_run (wanted_none rfl) (by unfold execOp;simp only [];rw [e7];go_simp) rfl
 ·refine ⟨⟨fun τ=>stableE_det _,leans_not⟩,?_⟩
  intro a w O hk
  have e3:a.eval (.tmp 3)=.pointer (some ⟨h,0,none⟩):=(hk.init 3 (initialB_of_nw nw3)).trans hi3
  exact obE_run (wanted_none rfl) (by unfold execOp;simp only [];rw [e3];go_simp) rfl
 ·refine ⟨⟨fun τ=>stableE_det _,leans_not⟩,?_⟩
  intro a w O hk
  have e9:a.eval (.tmp 9)=.pointer (some ⟨h,0,none⟩):=hk.fact 2 _ 9 rfl rfl rfl rfl
  have x3:=hk.world.still hx3 (fun ⟨_,h⟩=>h.elim And.right And.right)
  obtain ⟨p0,p1,p2,p3,p4,p5,p6,p7⟩:=row8 x3
  exact obE_run (wanted_none rfl) (by unfold execOp;simp only [];rw [e9];go_simp) rfl
 ·refine ⟨⟨fun τ=>stableE_det _,leans_not⟩,?_⟩
  intro a w O hk
  have e8:a.eval (.tmp 8)=.int .i64 t.kind:=hk.fact 1 _ 8 rfl rfl rfl rfl
  have e10:a.eval (.tmp 10)=.int .i64 u.kind:=hk.fact 3 _ 10 rfl rfl rfl rfl
  exact toE (ob_neqInt true rfl e8 e10 (by simp [hkk]) (wanted_none rfl) rfl)
 ·refine ⟨⟨fun τ=>stableE_det _,leans_not⟩,?_⟩
  intro a w O hk
  have e11:a.eval (.tmp 11)=.bool true:=hk.fact 4 _ 11 rfl rfl rfl rfl
  exact toE (ob_move rfl e11 (wanted_none rfl) rfl)
 ·refine ⟨⟨fun τ=>stableE_det _,leans_not⟩,?_⟩
  intro a w O hk
  have e2:a.eval (.tmp 2)=.pointer (some ⟨g,0,none⟩):=(hk.init 2 (initialB_of_nw nw2)).trans hi2
  have e12:a.eval (.tmp 12)=.bool true:=hk.fact 5 _ 12 rfl rfl rfl rfl
  exact toE (ob_skip (unwanted_of rfl rfl rfl e12 (by decide)) rfl)
 ·refine ⟨⟨fun τ=>stableE_det _,leans_not⟩,?_⟩
  intro a w O hk
  have e13:a.eval (.tmp 13)=undef:=hk.fact 6 _ 13 rfl rfl rfl rfl
  have e12:a.eval (.tmp 12)=.bool true:=hk.fact 5 _ 12 rfl rfl rfl rfl
  exact toE (ob_skip (unwanted_of rfl rfl rfl e12 (by decide)) rfl)
 ·refine ⟨⟨fun τ=>stableE_det _,leans_not⟩,?_⟩
  intro a w O hk
  have e3:a.eval (.tmp 3)=.pointer (some ⟨h,0,none⟩):=(hk.init 3 (initialB_of_nw nw3)).trans hi3
  have e12:a.eval (.tmp 12)=.bool true:=hk.fact 5 _ 12 rfl rfl rfl rfl
  exact toE (ob_skip (unwanted_of rfl rfl rfl e12 (by decide)) rfl)
 ·refine ⟨⟨fun τ=>stableE_det _,leans_not⟩,?_⟩
  intro a w O hk
  have e15:a.eval (.tmp 15)=undef:=hk.fact 8 _ 15 rfl rfl rfl rfl
  have e12:a.eval (.tmp 12)=.bool true:=hk.fact 5 _ 12 rfl rfl rfl rfl
  exact toE (ob_skip (unwanted_of rfl rfl rfl e12 (by decide)) rfl)
 ·refine ⟨⟨fun τ=>stableE_det _,leans_not⟩,?_⟩
  intro a w O hk
  have e14:a.eval (.tmp 14)=undef:=hk.fact 7 _ 14 rfl rfl rfl rfl
  have e16:a.eval (.tmp 16)=undef:=hk.fact 9 _ 16 rfl rfl rfl rfl
  have e12:a.eval (.tmp 12)=.bool true:=hk.fact 5 _ 12 rfl rfl rfl rfl
  exact toE (ob_skip (unwanted_of rfl rfl rfl e12 (by decide)) rfl)
 ·refine ⟨⟨fun τ=>stableE_det _,leans_not⟩,?_⟩
  intro a w O hk
  have e12:a.eval (.tmp 12)=.bool true:=hk.fact 5 _ 12 rfl rfl rfl rfl
  have e17:a.eval (.tmp 17)=undef:=hk.fact 10 _ 17 rfl rfl rfl rfl
  exact toE (ob_pick rfl e12 rfl (wanted_none rfl) rfl)
set_option maxRecDepth 100000 in
set_option maxHeartbeats 8000000 in
theorem nrn_region {Q:Exit→Act→World→Prop} {id:Nat} (w0:World) (g h:Nat) (p q:Pl) (t u:Tm) {s0 s1 s4 s5 s6 s7 s8 s9 s10 s11 s12 s13 s14 s15 s16 s17 s18 s19 s20 s21 s22 s23 s24 s25 s26 s27 s28 s29 s30 s31 s32 s33 s34 s35 s36 s37 s38 s39 s40 s41 s42 s43 s44 s45 s46 s47 s48 s49 s50 s51 s52 s53 s54 s55 s56 s57 s58 s59 s60 s61 s62 s63 s64 s65 s66 s67 s68 s69 s70 s71 s72 s73 s74 s75 s76 s77 s78 s79 s80 s81 s82 s83 s84 s85 s86 s87 s88 s89 s90:Value} (hx2:w0.heap[g]?=some (tmO p t)) (hx3:w0.heap[h]?=some (tmO q u)) (hkk:t.kind≠u.kind)
  (hend:∀ (w':World),Chg (fun k=>False∨False) w0 w'→Q .normal { tmps:=(s0 :: s1 :: (.pointer (some ⟨g,0,none⟩)) :: (.pointer (some ⟨h,0,none⟩)) :: s4 :: s5 :: s6 :: (.pointer (some ⟨g,0,none⟩)) :: (.int .i64 t.kind) :: (.pointer (some ⟨h,0,none⟩)) :: (.int .i64 u.kind) :: (.bool true) :: (.bool true) :: undef :: undef :: undef :: undef :: undef :: (.bool true) :: s19 :: s20 :: s21 :: s22 :: s23 :: s24 :: s25 :: s26 :: s27 :: s28 :: s29 :: s30 :: s31 :: s32 :: s33 :: s34 :: s35 :: s36 :: s37 :: s38 :: s39 :: s40 :: s41 :: s42 :: s43 :: s44 :: s45 :: s46 :: s47 :: s48 :: s49 :: s50 :: s51 :: s52 :: s53 :: s54 :: s55 :: s56 :: s57 :: s58 :: s59 :: s60 :: s61 :: s62 :: s63 :: s64 :: s65 :: s66 :: s67 :: s68 :: s69 :: s70 :: s71 :: s72 :: s73 :: s74 :: s75 :: s76 :: s77 :: s78 :: s79 :: s80 :: s81 :: s82 :: s83 :: s84 :: s85 :: s86 :: s87 :: s88 :: s89 :: s90 :: []:List Value).toArray,defers:=[] } w') :
  (Code.region id nrn_ops.toArray true).wp Try.prog Q { tmps:=(s0 :: s1 :: (.pointer (some ⟨g,0,none⟩)) :: (.pointer (some ⟨h,0,none⟩)) :: s4 :: s5 :: s6 :: s7 :: s8 :: s9 :: s10 :: s11 :: s12 :: s13 :: s14 :: s15 :: s16 :: s17 :: s18 :: s19 :: s20 :: s21 :: s22 :: s23 :: s24 :: s25 :: s26 :: s27 :: s28 :: s29 :: s30 :: s31 :: s32 :: s33 :: s34 :: s35 :: s36 :: s37 :: s38 :: s39 :: s40 :: s41 :: s42 :: s43 :: s44 :: s45 :: s46 :: s47 :: s48 :: s49 :: s50 :: s51 :: s52 :: s53 :: s54 :: s55 :: s56 :: s57 :: s58 :: s59 :: s60 :: s61 :: s62 :: s63 :: s64 :: s65 :: s66 :: s67 :: s68 :: s69 :: s70 :: s71 :: s72 :: s73 :: s74 :: s75 :: s76 :: s77 :: s78 :: s79 :: s80 :: s81 :: s82 :: s83 :: s84 :: s85 :: s86 :: s87 :: s88 :: s89 :: s90 :: []:List Value).toArray,defers:=[] } w0:=by
 refine wp_region_est (by kernel_rfl) (est2 0 0 (fun _=>False) (fun _=>False)) nrn_C (nrn_F w0 g h p q t u) (est2_dis (fun _ h _=>h)) (est2_range (fun _ h=>h.elim) (fun _ h=>h.elim)) (by rfl) (by kernel_rfl) (nrn_obs w0.drew g h p q t u hx2 hx3 hkk _ _ rfl rfl) ?_
 intro a w' O hd hs hb hf hf2 ha hsame
 have hl:=slots_eq (ops:=nrn_ops.toArray) [(7,.pointer (some ⟨g,0,none⟩)),(8,.int .i64 t.kind),(9,.pointer (some ⟨h,0,none⟩)),(10,.int .i64 u.kind),(11,.bool true),(12,.bool true),(13,undef),(14,undef),(15,undef),(16,undef),(17,undef),(18,.bool true)] (show a.tmps.size=91 from hs) (fun i h=>hsame i h) ⟨(hf 0 _ 7 rfl rfl (by decide)).1,(hf 1 _ 8 rfl rfl (by decide)).1,(hf 2 _ 9 rfl rfl (by decide)).1,(hf 3 _ 10 rfl rfl (by decide)).1,(hf 4 _ 11 rfl rfl (by decide)).1,(hf 5 _ 12 rfl rfl (by decide)).1,(hf 6 _ 13 rfl rfl (by decide)).1,(hf 7 _ 14 rfl rfl (by decide)).1,(hf 8 _ 15 rfl rfl (by decide)).1,(hf 9 _ 16 rfl rfl (by decide)).1,(hf 10 _ 17 rfl rfl (by decide)).1,(hf 11 _ 18 rfl rfl (by decide)).1,trivial⟩ (by kernel_rfl)
 obtain ⟨tmps,defers⟩:=a
 obtain rfl:defers=[]:=hd
 have hl':tmps=_:=hl
 rw [hl']
 have hb':=est2_chg hb
 refine Eq.mp ?_ (hend w' ⟨hb'.os,hb'.tape,hb'.output,hb'.size,hb'.block⟩)
 kernel_rfl

def nry_F (w0:World) (g h:Nat) (p q:Pl) (t u:Tm) (la lb nl:Bool):Nat→(Nat→Value)→Value→World→(Nat→Prop)→Prop:=fun rix=>match rix with
 | 0=>fun _ v _ _=>v=.pointer (some ⟨g,0,none⟩)
 | 1=>fun _ v _ _=>v=.int .i64 t.kind
 | 2=>fun _ v _ _=>v=.pointer (some ⟨h,0,none⟩)
 | 3=>fun _ v _ _=>v=.int .i64 u.kind
 | 4=>fun _ v _ _=>v=.bool false
 | 5=>fun _ v _ _=>v=.bool false
 | 6=>fun _ v _ _=>v=tmV p t
 | 7=>fun _ v _ _=>v=.bool la
 | 8=>fun _ v _ _=>v=tmV q u
 | 9=>fun _ v _ _=>v=.bool lb
 | 10=>fun _ v _ _=>v=.bool nl
 | 11=>fun _ v _ _=>v=.bool nl
 | _=>fun _ _ _ _=>True
def nry_C:Nat→List Nat:=fun rix=>match rix with
 | _=>[]
theorem nry_nw2:nwB nrn_ops.toArray 2=true:=by kernel_rfl
theorem nry_nw3:nwB nrn_ops.toArray 3=true:=by kernel_rfl
set_option maxRecDepth 100000 in
set_option maxHeartbeats 8000000 in
theorem nry_obs (w0:World) (g h:Nat) (p q:Pl) (t u:Tm) (la lb nl:Bool) (hx2:w0.heap[g]?=some (tmO p t)) (hx3:w0.heap[h]?=some (tmO q u)) (hkk:t.kind=u.kind) (hla:leafR t=la) (hlb:leafR u=lb) (hnl:(la != lb)=nl) (hl2:t.kids.length≤9223372036854775807) (hl3:u.kids.length≤9223372036854775807) (Q:Exit→Act→World→Prop) (a0:Act) (hi2:a0.tmps.getD 2 undef=.pointer (some ⟨g,0,none⟩)) (hi3:a0.tmps.getD 3 undef=.pointer (some ⟨h,0,none⟩)) :
  ObsE Try.prog nrn_ops.toArray Q (est2 0 0 (fun _=>False) (fun _=>False)) nry_C (nry_F w0 g h p q t u la lb nl) a0 w0 nrn_ops.toArray.toList 0:=by
 have nw2:=nry_nw2
 have nw3:=nry_nw3
 refine ⟨?_,?_,?_,?_,?_,?_,?_,?_,?_,?_,?_,?_,trivial⟩
 ·refine ⟨⟨fun τ=>stableE_det _,leans_not⟩,?_⟩
  intro a w O hk
  have e2:a.eval (.tmp 2)=.pointer (some ⟨g,0,none⟩):=(hk.init 2 (initialB_of_nw nw2)).trans hi2
  exact obE_run (wanted_none rfl) (by unfold execOp;simp only [];rw [e2];go_simp) rfl
 ·refine ⟨⟨fun τ=>stableE_det _,leans_not⟩,?_⟩
  intro a w O hk
  have e7:a.eval (.tmp 7)=.pointer (some ⟨g,0,none⟩):=hk.fact 0 _ 7 rfl rfl rfl rfl
  have x2:=hk.world.still hx2 (fun ⟨_,h⟩=>h.elim And.right And.right)
  obtain ⟨p0,p1,p2,p3,p4,p5,p6,p7⟩:=row8 x2
  exact obE_run (wanted_none rfl) (by unfold execOp;simp only [];rw [e7];go_simp) rfl
 ·refine ⟨⟨fun τ=>stableE_det _,leans_not⟩,?_⟩
  intro a w O hk
  have e3:a.eval (.tmp 3)=.pointer (some ⟨h,0,none⟩):=(hk.init 3 (initialB_of_nw nw3)).trans hi3
  exact obE_run (wanted_none rfl) (by unfold execOp;simp only [];rw [e3];go_simp) rfl
 ·refine ⟨⟨fun τ=>stableE_det _,leans_not⟩,?_⟩
  intro a w O hk
  have e9:a.eval (.tmp 9)=.pointer (some ⟨h,0,none⟩):=hk.fact 2 _ 9 rfl rfl rfl rfl
  have x3:=hk.world.still hx3 (fun ⟨_,h⟩=>h.elim And.right And.right)
  obtain ⟨p0,p1,p2,p3,p4,p5,p6,p7⟩:=row8 x3
  exact obE_run (wanted_none rfl) (by unfold execOp;simp only [];rw [e9];go_simp) rfl
 ·refine ⟨⟨fun τ=>stableE_det _,leans_not⟩,?_⟩
  intro a w O hk
  have e8:a.eval (.tmp 8)=.int .i64 t.kind:=hk.fact 1 _ 8 rfl rfl rfl rfl
  have e10:a.eval (.tmp 10)=.int .i64 u.kind:=hk.fact 3 _ 10 rfl rfl rfl rfl
  exact toE (ob_neqInt false rfl e8 e10 (by simp [hkk]) (wanted_none rfl) rfl)
 ·refine ⟨⟨fun τ=>stableE_det _,leans_not⟩,?_⟩
  intro a w O hk
  have e11:a.eval (.tmp 11)=.bool false:=hk.fact 4 _ 11 rfl rfl rfl rfl
  exact toE (ob_move rfl e11 (wanted_none rfl) rfl)
 ·refine ⟨⟨fun τ=>stableE_det _,leans_not⟩,?_⟩
  intro a w O hk
  have e2:a.eval (.tmp 2)=.pointer (some ⟨g,0,none⟩):=(hk.init 2 (initialB_of_nw nw2)).trans hi2
  have e12:a.eval (.tmp 12)=.bool false:=hk.fact 5 _ 12 rfl rfl rfl rfl
  have x2:=hk.world.still hx2 (fun ⟨_,h⟩=>h.elim And.right And.right)
  exact obE_loadRow rfl e2 x2 Try.underlying28 rfl (by kernel_rfl) (wanted_of rfl rfl rfl e12) rfl
 ·refine ⟨⟨fun τ=>stableE_det _,leans_not⟩,?_⟩
  intro a w O hk
  have e13:a.eval (.tmp 13)=tmV p t:=hk.fact 6 _ 13 rfl rfl rfl rfl
  have e12:a.eval (.tmp 12)=.bool false:=hk.fact 5 _ 12 rfl rfl rfl rfl
  exact obE_callV #[tmV p t] rfl rfl rfl rfl (by simp only [List.map_cons,List.map_nil];rw [e13]) (wanted_of rfl rfl rfl e12) ((refleaf_calls t p w hl2).mono fun e w' h=>⟨by rw [h.1,hla],h.2⟩)
 ·refine ⟨⟨fun τ=>stableE_det _,leans_not⟩,?_⟩
  intro a w O hk
  have e3:a.eval (.tmp 3)=.pointer (some ⟨h,0,none⟩):=(hk.init 3 (initialB_of_nw nw3)).trans hi3
  have e12:a.eval (.tmp 12)=.bool false:=hk.fact 5 _ 12 rfl rfl rfl rfl
  have x3:=hk.world.still hx3 (fun ⟨_,h⟩=>h.elim And.right And.right)
  exact obE_loadRow rfl e3 x3 Try.underlying28 rfl (by kernel_rfl) (wanted_of rfl rfl rfl e12) rfl
 ·refine ⟨⟨fun τ=>stableE_det _,leans_not⟩,?_⟩
  intro a w O hk
  have e15:a.eval (.tmp 15)=tmV q u:=hk.fact 8 _ 15 rfl rfl rfl rfl
  have e12:a.eval (.tmp 12)=.bool false:=hk.fact 5 _ 12 rfl rfl rfl rfl
  exact obE_callV #[tmV q u] rfl rfl rfl rfl (by simp only [List.map_cons,List.map_nil];rw [e15]) (wanted_of rfl rfl rfl e12) ((refleaf_calls u q w hl3).mono fun e w' h=>⟨by rw [h.1,hlb],h.2⟩)
 ·refine ⟨⟨fun τ=>stableE_det _,leans_not⟩,?_⟩
  intro a w O hk
  have e14:a.eval (.tmp 14)=.bool la:=hk.fact 7 _ 14 rfl rfl rfl rfl
  have e16:a.eval (.tmp 16)=.bool lb:=hk.fact 9 _ 16 rfl rfl rfl rfl
  have e12:a.eval (.tmp 12)=.bool false:=hk.fact 5 _ 12 rfl rfl rfl rfl
  exact toE (ob_neB nl rfl e14 e16 Try.underlying4 hnl (wanted_of rfl rfl rfl e12) rfl)
 ·refine ⟨⟨fun τ=>stableE_det _,leans_not⟩,?_⟩
  intro a w O hk
  have e12:a.eval (.tmp 12)=.bool false:=hk.fact 5 _ 12 rfl rfl rfl rfl
  have e17:a.eval (.tmp 17)=.bool nl:=hk.fact 10 _ 17 rfl rfl rfl rfl
  exact toE (ob_pick rfl e12 e17 (wanted_none rfl) rfl)
set_option maxRecDepth 100000 in
set_option maxHeartbeats 8000000 in
theorem nry_region {Q:Exit→Act→World→Prop} {id:Nat} (w0:World) (g h:Nat) (p q:Pl) (t u:Tm) (la lb nl:Bool) {s0 s1 s4 s5 s6 s7 s8 s9 s10 s11 s12 s13 s14 s15 s16 s17 s18 s19 s20 s21 s22 s23 s24 s25 s26 s27 s28 s29 s30 s31 s32 s33 s34 s35 s36 s37 s38 s39 s40 s41 s42 s43 s44 s45 s46 s47 s48 s49 s50 s51 s52 s53 s54 s55 s56 s57 s58 s59 s60 s61 s62 s63 s64 s65 s66 s67 s68 s69 s70 s71 s72 s73 s74 s75 s76 s77 s78 s79 s80 s81 s82 s83 s84 s85 s86 s87 s88 s89 s90:Value} (hx2:w0.heap[g]?=some (tmO p t)) (hx3:w0.heap[h]?=some (tmO q u)) (hkk:t.kind=u.kind) (hla:leafR t=la) (hlb:leafR u=lb) (hnl:(la != lb)=nl) (hl2:t.kids.length≤9223372036854775807) (hl3:u.kids.length≤9223372036854775807)
  (hend:∀ (w':World),Chg (fun k=>False∨False) w0 w'→Q .normal { tmps:=(s0 :: s1 :: (.pointer (some ⟨g,0,none⟩)) :: (.pointer (some ⟨h,0,none⟩)) :: s4 :: s5 :: s6 :: (.pointer (some ⟨g,0,none⟩)) :: (.int .i64 t.kind) :: (.pointer (some ⟨h,0,none⟩)) :: (.int .i64 u.kind) :: (.bool false) :: (.bool false) :: (tmV p t) :: (.bool la) :: (tmV q u) :: (.bool lb) :: (.bool nl) :: (.bool nl) :: s19 :: s20 :: s21 :: s22 :: s23 :: s24 :: s25 :: s26 :: s27 :: s28 :: s29 :: s30 :: s31 :: s32 :: s33 :: s34 :: s35 :: s36 :: s37 :: s38 :: s39 :: s40 :: s41 :: s42 :: s43 :: s44 :: s45 :: s46 :: s47 :: s48 :: s49 :: s50 :: s51 :: s52 :: s53 :: s54 :: s55 :: s56 :: s57 :: s58 :: s59 :: s60 :: s61 :: s62 :: s63 :: s64 :: s65 :: s66 :: s67 :: s68 :: s69 :: s70 :: s71 :: s72 :: s73 :: s74 :: s75 :: s76 :: s77 :: s78 :: s79 :: s80 :: s81 :: s82 :: s83 :: s84 :: s85 :: s86 :: s87 :: s88 :: s89 :: s90 :: []:List Value).toArray,defers:=[] } w') :
  (Code.region id nrn_ops.toArray true).wp Try.prog Q { tmps:=(s0 :: s1 :: (.pointer (some ⟨g,0,none⟩)) :: (.pointer (some ⟨h,0,none⟩)) :: s4 :: s5 :: s6 :: s7 :: s8 :: s9 :: s10 :: s11 :: s12 :: s13 :: s14 :: s15 :: s16 :: s17 :: s18 :: s19 :: s20 :: s21 :: s22 :: s23 :: s24 :: s25 :: s26 :: s27 :: s28 :: s29 :: s30 :: s31 :: s32 :: s33 :: s34 :: s35 :: s36 :: s37 :: s38 :: s39 :: s40 :: s41 :: s42 :: s43 :: s44 :: s45 :: s46 :: s47 :: s48 :: s49 :: s50 :: s51 :: s52 :: s53 :: s54 :: s55 :: s56 :: s57 :: s58 :: s59 :: s60 :: s61 :: s62 :: s63 :: s64 :: s65 :: s66 :: s67 :: s68 :: s69 :: s70 :: s71 :: s72 :: s73 :: s74 :: s75 :: s76 :: s77 :: s78 :: s79 :: s80 :: s81 :: s82 :: s83 :: s84 :: s85 :: s86 :: s87 :: s88 :: s89 :: s90 :: []:List Value).toArray,defers:=[] } w0:=by
 refine wp_region_est (by kernel_rfl) (est2 0 0 (fun _=>False) (fun _=>False)) nry_C (nry_F w0 g h p q t u la lb nl) (est2_dis (fun _ h _=>h)) (est2_range (fun _ h=>h.elim) (fun _ h=>h.elim)) (by rfl) (by kernel_rfl) (nry_obs w0.drew g h p q t u la lb nl hx2 hx3 hkk hla hlb hnl hl2 hl3 _ _ rfl rfl) ?_
 intro a w' O hd hs hb hf hf2 ha hsame
 have hl:=slots_eq (ops:=nrn_ops.toArray) [(7,.pointer (some ⟨g,0,none⟩)),(8,.int .i64 t.kind),(9,.pointer (some ⟨h,0,none⟩)),(10,.int .i64 u.kind),(11,.bool false),(12,.bool false),(13,tmV p t),(14,.bool la),(15,tmV q u),(16,.bool lb),(17,.bool nl),(18,.bool nl)] (show a.tmps.size=91 from hs) (fun i h=>hsame i h) ⟨(hf 0 _ 7 rfl rfl (by decide)).1,(hf 1 _ 8 rfl rfl (by decide)).1,(hf 2 _ 9 rfl rfl (by decide)).1,(hf 3 _ 10 rfl rfl (by decide)).1,(hf 4 _ 11 rfl rfl (by decide)).1,(hf 5 _ 12 rfl rfl (by decide)).1,(hf 6 _ 13 rfl rfl (by decide)).1,(hf 7 _ 14 rfl rfl (by decide)).1,(hf 8 _ 15 rfl rfl (by decide)).1,(hf 9 _ 16 rfl rfl (by decide)).1,(hf 10 _ 17 rfl rfl (by decide)).1,(hf 11 _ 18 rfl rfl (by decide)).1,trivial⟩ (by kernel_rfl)
 obtain ⟨tmps,defers⟩:=a
 obtain rfl:defers=[]:=hd
 have hl':tmps=_:=hl
 rw [hl']
 have hb':=est2_chg hb
 refine Eq.mp ?_ (hend w' ⟨hb'.os,hb'.tape,hb'.output,hb'.size,hb'.block⟩)
 kernel_rfl

def nrk_ops:List Oper:=[
 { dst:=some 78,op:=Go.Op.fieldAddr 28 (Go.Operand.tmp 2) 5,type:=0,pos:= "law.go:85",after:=#[],guard:=none },
 { dst:=some 79,op:=Go.Op.load 26 (Go.Operand.tmp 78),type:=26,pos:= "law.go:85",after:=#[{ on:=0,ground:=Go.Ground.data }],guard:=none },
 { dst:=some 80,op:=Go.Op.move (Go.Operand.tmp 6),type:=3,pos:= "law.go:85",after:=#[],guard:=none },
 { dst:=some 81,op:=Go.Op.indexAddr 26 (Go.Operand.tmp 79) (Go.Operand.tmp 80),type:=0,pos:= "law.go:85",after:=#[{ on:=1,ground:=Go.Ground.data },{ on:=2,ground:=Go.Ground.data }],guard:=none },
 { dst:=some 82,op:=Go.Op.load 28 (Go.Operand.tmp 81),type:=28,pos:= "law.go:85",after:=#[{ on:=3,ground:=Go.Ground.data }],guard:=none },
 { dst:=some 83,op:=Go.Op.fieldAddr 28 (Go.Operand.tmp 3) 5,type:=0,pos:= "law.go:85",after:=#[],guard:=none },
 { dst:=some 84,op:=Go.Op.load 26 (Go.Operand.tmp 83),type:=26,pos:= "law.go:85",after:=#[{ on:=5,ground:=Go.Ground.data }],guard:=none },
 { dst:=some 85,op:=Go.Op.move (Go.Operand.tmp 6),type:=3,pos:= "law.go:85",after:=#[],guard:=none },
 { dst:=some 86,op:=Go.Op.indexAddr 26 (Go.Operand.tmp 84) (Go.Operand.tmp 85),type:=0,pos:= "law.go:85",after:=#[{ on:=6,ground:=Go.Ground.data },{ on:=7,ground:=Go.Ground.data }],guard:=none },
 { dst:=some 87,op:=Go.Op.load 28 (Go.Operand.tmp 86),type:=28,pos:= "law.go:85",after:=#[{ on:=8,ground:=Go.Ground.data }],guard:=none },
 { dst:=some 88,op:=Go.Op.call { callee:=Go.Callee.value (Go.Operand.func 68),args:=#[Go.Operand.tmp 82,Go.Operand.tmp 87],argTypes:=#[28,28] },type:=4,pos:= "law.go:85",after:=#[{ on:=4,ground:=Go.Ground.data },{ on:=9,ground:=Go.Ground.data }],guard:=none },
 { dst:=some 89,op:=Go.Op.unOp Go.UnOp.not 4 (Go.Operand.tmp 88),type:=4,pos:= "law.go:85",after:=#[{ on:=10,ground:=Go.Ground.data }],guard:=none }]
def nrk_F (w0:World) (g h i:Nat) (p q:Pl) (t u:Tm) (ga oa gd od m1 m2:Nat) (qx qy:Pl) (x y:Tm) (r:Bool):Nat→(Nat→Value)→Value→World→(Nat→Prop)→Prop:=fun rix=>match rix with
 | 0=>fun _ v _ _=>v=.pointer (some ⟨g,7,none⟩)
 | 1=>fun _ v _ _=>v=.slice (some ⟨ga,oa,none⟩) m1 p.e
 | 2=>fun _ v _ _=>v=.int .i64 i
 | 3=>fun _ v _ _=>v=.pointer (some ⟨ga,oa+i * 8,none⟩)
 | 4=>fun _ v _ _=>v=tmV qx x
 | 5=>fun _ v _ _=>v=.pointer (some ⟨h,7,none⟩)
 | 6=>fun _ v _ _=>v=.slice (some ⟨gd,od,none⟩) m2 q.e
 | 7=>fun _ v _ _=>v=.int .i64 i
 | 8=>fun _ v _ _=>v=.pointer (some ⟨gd,od+i * 8,none⟩)
 | 9=>fun _ v _ _=>v=tmV qy y
 | 10=>fun _ v _ _=>v=.bool r
 | 11=>fun _ v _ _=>v=.bool (!r)
 | _=>fun _ _ _ _=>True
def nrk_C:Nat→List Nat:=fun rix=>match rix with
 | _=>[]
theorem nrk_nw2:nwB nrk_ops.toArray 2=true:=by kernel_rfl
theorem nrk_nw3:nwB nrk_ops.toArray 3=true:=by kernel_rfl
theorem nrk_nw6:nwB nrk_ops.toArray 6=true:=by kernel_rfl
set_option maxRecDepth 100000 in
set_option maxHeartbeats 8000000 in
theorem nrk_obs (w0:World) (g h i:Nat) (p q:Pl) (t u:Tm) (ga oa gd od m1 m2:Nat) (qx qy:Pl) (x y:Tm) (r:Bool) (hx2:w0.heap[g]?=some (tmO p t)) (hx3:w0.heap[h]?=some (tmO q u)) (hpK:p.K=some ⟨ga,oa,none⟩) (hqK:q.K=some ⟨gd,od,none⟩) (hm1:t.kids.length=m1) (hm2:u.kids.length=m2) (hga:ga<w0.heap.size) (hgd:gd<w0.heap.size) (him1:i<m1) (him2:i<m2) (hpe:m1≤9223372036854775807) (hqe:m2≤9223372036854775807) (him9:i≤3) (ca0:w0.cell? ⟨ga,oa+i * 8,none⟩=some (.int .i64 x.kind)) (ca1:w0.cell? ⟨ga,oa+i * 8+1,none⟩=some (.int .i64 x.num)) (ca2:w0.cell? ⟨ga,oa+i * 8+2,none⟩=some (.string x.name)) (ca3:w0.cell? ⟨ga,oa+i * 8+3,none⟩=some (.int .i64 x.lv.kind)) (ca4:w0.cell? ⟨ga,oa+i * 8+4,none⟩=some (.int .i64 x.lv.num)) (ca5:w0.cell? ⟨ga,oa+i * 8+5,none⟩=some (.slice qx.A x.lv.kids.length qx.c)) (ca6:w0.cell? ⟨ga,oa+i * 8+6,none⟩=some (.slice qx.B x.ls.length qx.d)) (ca7:w0.cell? ⟨ga,oa+i * 8+7,none⟩=some (.slice qx.K x.kids.length qx.e)) (cb0:w0.cell? ⟨gd,od+i * 8,none⟩=some (.int .i64 y.kind)) (cb1:w0.cell? ⟨gd,od+i * 8+1,none⟩=some (.int .i64 y.num)) (cb2:w0.cell? ⟨gd,od+i * 8+2,none⟩=some (.string y.name)) (cb3:w0.cell? ⟨gd,od+i * 8+3,none⟩=some (.int .i64 y.lv.kind)) (cb4:w0.cell? ⟨gd,od+i * 8+4,none⟩=some (.int .i64 y.lv.num)) (cb5:w0.cell? ⟨gd,od+i * 8+5,none⟩=some (.slice qy.A y.lv.kids.length qy.c)) (cb6:w0.cell? ⟨gd,od+i * 8+6,none⟩=some (.slice qy.B y.ls.length qy.d)) (cb7:w0.cell? ⟨gd,od+i * 8+7,none⟩=some (.slice qy.K y.kids.length qy.e)) (hIH:∀ w,Below w0.heap.size w0 w→Calls Try.prog 68 #[tmV qx x,tmV qy y] w fun e w'=>e=.returned (.bool r)∧Below w.heap.size w w') (Q:Exit→Act→World→Prop) (a0:Act) (hi2:a0.tmps.getD 2 undef=.pointer (some ⟨g,0,none⟩)) (hi3:a0.tmps.getD 3 undef=.pointer (some ⟨h,0,none⟩)) (hi6:a0.tmps.getD 6 undef=.int .i64 i) :
  ObsE Try.prog nrk_ops.toArray Q (est2 0 0 (fun _=>False) (fun _=>False)) nrk_C (nrk_F w0 g h i p q t u ga oa gd od m1 m2 qx qy x y r) a0 w0 nrk_ops.toArray.toList 0:=by
 have nw2:=nrk_nw2
 have nw3:=nrk_nw3
 have nw6:=nrk_nw6
 refine ⟨?_,?_,?_,?_,?_,?_,?_,?_,?_,?_,?_,?_,trivial⟩
 ·refine ⟨⟨fun τ=>stableE_det _,leans_not⟩,?_⟩
  intro a w O hk
  have e2:a.eval (.tmp 2)=.pointer (some ⟨g,0,none⟩):=(hk.init 2 (initialB_of_nw nw2)).trans hi2
  have x2:=hk.world.still hx2 (fun ⟨_,h⟩=>h.elim And.right And.right)
  have x3:=hk.world.still hx3 (fun ⟨_,h⟩=>h.elim And.right And.right)
  have hcc:∀ j,w.cell? ⟨ga,j,none⟩=w0.cell? ⟨ga,j,none⟩:=fun j=>cell_same ((hk.world.below (fun k ⟨_,h⟩=>h.elim (fun h=>h.2.elim) fun h=>h.2.elim) (Nat.le_refl _)).block _ hga)
  have hcd:∀ j,w.cell? ⟨gd,j,none⟩=w0.cell? ⟨gd,j,none⟩:=fun j=>cell_same ((hk.world.below (fun k ⟨_,h⟩=>h.elim (fun h=>h.2.elim) fun h=>h.2.elim) (Nat.le_refl _)).block _ hgd)
  exact obE_run (wanted_none rfl) (by unfold execOp;simp only [];rw [e2];go_simp) rfl
 ·refine ⟨⟨fun τ=>stableE_det _,leans_not⟩,?_⟩
  intro a w O hk
  have e78:a.eval (.tmp 78)=.pointer (some ⟨g,7,none⟩):=hk.fact 0 _ 78 rfl rfl rfl rfl
  have x2:=hk.world.still hx2 (fun ⟨_,h⟩=>h.elim And.right And.right)
  have x3:=hk.world.still hx3 (fun ⟨_,h⟩=>h.elim And.right And.right)
  have hcc:∀ j,w.cell? ⟨ga,j,none⟩=w0.cell? ⟨ga,j,none⟩:=fun j=>cell_same ((hk.world.below (fun k ⟨_,h⟩=>h.elim (fun h=>h.2.elim) fun h=>h.2.elim) (Nat.le_refl _)).block _ hga)
  have hcd:∀ j,w.cell? ⟨gd,j,none⟩=w0.cell? ⟨gd,j,none⟩:=fun j=>cell_same ((hk.world.below (fun k ⟨_,h⟩=>h.elim (fun h=>h.2.elim) fun h=>h.2.elim) (Nat.le_refl _)).block _ hgd)
  obtain ⟨p0,p1,p2,p3,p4,p5,p6,p7⟩:=row8 x2
  rw [hpK,hm1] at p7
  exact obE_run (wanted_none rfl) (by unfold execOp;simp only [];rw [e78];go_simp) rfl
 ·refine ⟨⟨fun τ=>stableE_det _,leans_not⟩,?_⟩
  intro a w O hk
  have e6:a.eval (.tmp 6)=.int .i64 i:=(hk.init 6 (initialB_of_nw nw6)).trans hi6
  exact toE (ob_move rfl e6 (wanted_none rfl) rfl)
 ·refine ⟨⟨fun τ=>stableE_det _,leans_not⟩,?_⟩
  intro a w O hk
  have e79:a.eval (.tmp 79)=.slice (some ⟨ga,oa,none⟩) m1 p.e:=hk.fact 1 _ 79 rfl rfl rfl rfl
  have e80:a.eval (.tmp 80)=.int .i64 i:=hk.fact 2 _ 80 rfl rfl rfl rfl
  have x2:=hk.world.still hx2 (fun ⟨_,h⟩=>h.elim And.right And.right)
  have x3:=hk.world.still hx3 (fun ⟨_,h⟩=>h.elim And.right And.right)
  have hcc:∀ j,w.cell? ⟨ga,j,none⟩=w0.cell? ⟨ga,j,none⟩:=fun j=>cell_same ((hk.world.below (fun k ⟨_,h⟩=>h.elim (fun h=>h.2.elim) fun h=>h.2.elim) (Nat.le_refl _)).block _ hga)
  have hcd:∀ j,w.cell? ⟨gd,j,none⟩=w0.cell? ⟨gd,j,none⟩:=fun j=>cell_same ((hk.world.below (fun k ⟨_,h⟩=>h.elim (fun h=>h.2.elim) fun h=>h.2.elim) (Nat.le_refl _)).block _ hgd)
  exact obE_run (wanted_none rfl) (by unfold execOp;simp only [];rw [e79,e80];go_simp) rfl
 ·refine ⟨⟨fun τ=>stableE_det _,leans_not⟩,?_⟩
  intro a w O hk
  have e81:a.eval (.tmp 81)=.pointer (some ⟨ga,oa+i * 8,none⟩):=hk.fact 3 _ 81 rfl rfl rfl rfl
  have x2:=hk.world.still hx2 (fun ⟨_,h⟩=>h.elim And.right And.right)
  have x3:=hk.world.still hx3 (fun ⟨_,h⟩=>h.elim And.right And.right)
  have hcc:∀ j,w.cell? ⟨ga,j,none⟩=w0.cell? ⟨ga,j,none⟩:=fun j=>cell_same ((hk.world.below (fun k ⟨_,h⟩=>h.elim (fun h=>h.2.elim) fun h=>h.2.elim) (Nat.le_refl _)).block _ hga)
  have hcd:∀ j,w.cell? ⟨gd,j,none⟩=w0.cell? ⟨gd,j,none⟩:=fun j=>cell_same ((hk.world.below (fun k ⟨_,h⟩=>h.elim (fun h=>h.2.elim) fun h=>h.2.elim) (Nat.le_refl _)).block _ hgd)
  have r0:=(hcc _).trans ca0
  have r1:=(hcc _).trans ca1
  have r2:=(hcc _).trans ca2
  have r3:=(hcc _).trans ca3
  have r4:=(hcc _).trans ca4
  have r5:=(hcc _).trans ca5
  have r6:=(hcc _).trans ca6
  have r7:=(hcc _).trans ca7
  exact obE_run (wanted_none rfl) (by unfold execOp;simp only [];rw [e81];go_simp;rfl) rfl
 ·refine ⟨⟨fun τ=>stableE_det _,leans_not⟩,?_⟩
  intro a w O hk
  have e3:a.eval (.tmp 3)=.pointer (some ⟨h,0,none⟩):=(hk.init 3 (initialB_of_nw nw3)).trans hi3
  have x2:=hk.world.still hx2 (fun ⟨_,h⟩=>h.elim And.right And.right)
  have x3:=hk.world.still hx3 (fun ⟨_,h⟩=>h.elim And.right And.right)
  have hcc:∀ j,w.cell? ⟨ga,j,none⟩=w0.cell? ⟨ga,j,none⟩:=fun j=>cell_same ((hk.world.below (fun k ⟨_,h⟩=>h.elim (fun h=>h.2.elim) fun h=>h.2.elim) (Nat.le_refl _)).block _ hga)
  have hcd:∀ j,w.cell? ⟨gd,j,none⟩=w0.cell? ⟨gd,j,none⟩:=fun j=>cell_same ((hk.world.below (fun k ⟨_,h⟩=>h.elim (fun h=>h.2.elim) fun h=>h.2.elim) (Nat.le_refl _)).block _ hgd)
  exact obE_run (wanted_none rfl) (by unfold execOp;simp only [];rw [e3];go_simp) rfl
 ·refine ⟨⟨fun τ=>stableE_det _,leans_not⟩,?_⟩
  intro a w O hk
  have e83:a.eval (.tmp 83)=.pointer (some ⟨h,7,none⟩):=hk.fact 5 _ 83 rfl rfl rfl rfl
  have x2:=hk.world.still hx2 (fun ⟨_,h⟩=>h.elim And.right And.right)
  have x3:=hk.world.still hx3 (fun ⟨_,h⟩=>h.elim And.right And.right)
  have hcc:∀ j,w.cell? ⟨ga,j,none⟩=w0.cell? ⟨ga,j,none⟩:=fun j=>cell_same ((hk.world.below (fun k ⟨_,h⟩=>h.elim (fun h=>h.2.elim) fun h=>h.2.elim) (Nat.le_refl _)).block _ hga)
  have hcd:∀ j,w.cell? ⟨gd,j,none⟩=w0.cell? ⟨gd,j,none⟩:=fun j=>cell_same ((hk.world.below (fun k ⟨_,h⟩=>h.elim (fun h=>h.2.elim) fun h=>h.2.elim) (Nat.le_refl _)).block _ hgd)
  obtain ⟨p0,p1,p2,p3,p4,p5,p6,p7⟩:=row8 x3
  rw [hqK,hm2] at p7
  exact obE_run (wanted_none rfl) (by unfold execOp;simp only [];rw [e83];go_simp) rfl
 ·refine ⟨⟨fun τ=>stableE_det _,leans_not⟩,?_⟩
  intro a w O hk
  have e6:a.eval (.tmp 6)=.int .i64 i:=(hk.init 6 (initialB_of_nw nw6)).trans hi6
  exact toE (ob_move rfl e6 (wanted_none rfl) rfl)
 ·refine ⟨⟨fun τ=>stableE_det _,leans_not⟩,?_⟩
  intro a w O hk
  have e84:a.eval (.tmp 84)=.slice (some ⟨gd,od,none⟩) m2 q.e:=hk.fact 6 _ 84 rfl rfl rfl rfl
  have e85:a.eval (.tmp 85)=.int .i64 i:=hk.fact 7 _ 85 rfl rfl rfl rfl
  have x2:=hk.world.still hx2 (fun ⟨_,h⟩=>h.elim And.right And.right)
  have x3:=hk.world.still hx3 (fun ⟨_,h⟩=>h.elim And.right And.right)
  have hcc:∀ j,w.cell? ⟨ga,j,none⟩=w0.cell? ⟨ga,j,none⟩:=fun j=>cell_same ((hk.world.below (fun k ⟨_,h⟩=>h.elim (fun h=>h.2.elim) fun h=>h.2.elim) (Nat.le_refl _)).block _ hga)
  have hcd:∀ j,w.cell? ⟨gd,j,none⟩=w0.cell? ⟨gd,j,none⟩:=fun j=>cell_same ((hk.world.below (fun k ⟨_,h⟩=>h.elim (fun h=>h.2.elim) fun h=>h.2.elim) (Nat.le_refl _)).block _ hgd)
  exact obE_run (wanted_none rfl) (by unfold execOp;simp only [];rw [e84,e85];go_simp) rfl
 ·refine ⟨⟨fun τ=>stableE_det _,leans_not⟩,?_⟩
  intro a w O hk
  have e86:a.eval (.tmp 86)=.pointer (some ⟨gd,od+i * 8,none⟩):=hk.fact 8 _ 86 rfl rfl rfl rfl
  have x2:=hk.world.still hx2 (fun ⟨_,h⟩=>h.elim And.right And.right)
  have x3:=hk.world.still hx3 (fun ⟨_,h⟩=>h.elim And.right And.right)
  have hcc:∀ j,w.cell? ⟨ga,j,none⟩=w0.cell? ⟨ga,j,none⟩:=fun j=>cell_same ((hk.world.below (fun k ⟨_,h⟩=>h.elim (fun h=>h.2.elim) fun h=>h.2.elim) (Nat.le_refl _)).block _ hga)
  have hcd:∀ j,w.cell? ⟨gd,j,none⟩=w0.cell? ⟨gd,j,none⟩:=fun j=>cell_same ((hk.world.below (fun k ⟨_,h⟩=>h.elim (fun h=>h.2.elim) fun h=>h.2.elim) (Nat.le_refl _)).block _ hgd)
  have r0:=(hcd _).trans cb0
  have r1:=(hcd _).trans cb1
  have r2:=(hcd _).trans cb2
  have r3:=(hcd _).trans cb3
  have r4:=(hcd _).trans cb4
  have r5:=(hcd _).trans cb5
  have r6:=(hcd _).trans cb6
  have r7:=(hcd _).trans cb7
  exact obE_run (wanted_none rfl) (by unfold execOp;simp only [];rw [e86];go_simp;rfl) rfl
 ·refine ⟨⟨fun τ=>stableE_det _,leans_not⟩,?_⟩
  intro a w O hk
  have e82:a.eval (.tmp 82)=tmV qx x:=hk.fact 4 _ 82 rfl rfl rfl rfl
  have e87:a.eval (.tmp 87)=tmV qy y:=hk.fact 9 _ 87 rfl rfl rfl rfl
  have x2:=hk.world.still hx2 (fun ⟨_,h⟩=>h.elim And.right And.right)
  have x3:=hk.world.still hx3 (fun ⟨_,h⟩=>h.elim And.right And.right)
  have hcc:∀ j,w.cell? ⟨ga,j,none⟩=w0.cell? ⟨ga,j,none⟩:=fun j=>cell_same ((hk.world.below (fun k ⟨_,h⟩=>h.elim (fun h=>h.2.elim) fun h=>h.2.elim) (Nat.le_refl _)).block _ hga)
  have hcd:∀ j,w.cell? ⟨gd,j,none⟩=w0.cell? ⟨gd,j,none⟩:=fun j=>cell_same ((hk.world.below (fun k ⟨_,h⟩=>h.elim (fun h=>h.2.elim) fun h=>h.2.elim) (Nat.le_refl _)).block _ hgd)
  exact obE_callV #[tmV qx x,tmV qy y] rfl rfl rfl rfl (by simp only [List.map_cons,List.map_nil];rw [e82,e87]) (wanted_none rfl) (hIH w (hk.world.below (fun k ⟨_,h⟩=>h.elim (fun h=>h.2.elim) fun h=>h.2.elim) (Nat.le_refl _)))
 ·refine ⟨⟨fun τ=>stableE_det _,leans_not⟩,?_⟩
  intro a w O hk
  have e88:a.eval (.tmp 88)=.bool r:=hk.fact 10 _ 88 rfl rfl rfl rfl
  have x2:=hk.world.still hx2 (fun ⟨_,h⟩=>h.elim And.right And.right)
  have x3:=hk.world.still hx3 (fun ⟨_,h⟩=>h.elim And.right And.right)
  have hcc:∀ j,w.cell? ⟨ga,j,none⟩=w0.cell? ⟨ga,j,none⟩:=fun j=>cell_same ((hk.world.below (fun k ⟨_,h⟩=>h.elim (fun h=>h.2.elim) fun h=>h.2.elim) (Nat.le_refl _)).block _ hga)
  have hcd:∀ j,w.cell? ⟨gd,j,none⟩=w0.cell? ⟨gd,j,none⟩:=fun j=>cell_same ((hk.world.below (fun k ⟨_,h⟩=>h.elim (fun h=>h.2.elim) fun h=>h.2.elim) (Nat.le_refl _)).block _ hgd)
  exact obE_run (wanted_none rfl) (by unfold execOp;simp only [];rw [e88];go_simp) rfl
set_option maxRecDepth 100000 in
set_option maxHeartbeats 8000000 in
theorem nrk_region {Q:Exit→Act→World→Prop} {id:Nat} (w0:World) (g h i:Nat) (p q:Pl) (t u:Tm) (ga oa gd od m1 m2:Nat) (qx qy:Pl) (x y:Tm) (r:Bool) {s0 s1 s4 s5 s7 s8 s9 s10 s11 s12 s13 s14 s15 s16 s17 s18 s19 s20 s21 s22 s23 s24 s25 s26 s27 s28 s29 s30 s31 s32 s33 s34 s35 s36 s37 s38 s39 s40 s41 s42 s43 s44 s45 s46 s47 s48 s49 s50 s51 s52 s53 s54 s55 s56 s57 s58 s59 s60 s61 s62 s63 s64 s65 s66 s67 s68 s69 s70 s71 s72 s73 s74 s75 s76 s77 s78 s79 s80 s81 s82 s83 s84 s85 s86 s87 s88 s89 s90:Value} (hx2:w0.heap[g]?=some (tmO p t)) (hx3:w0.heap[h]?=some (tmO q u)) (hpK:p.K=some ⟨ga,oa,none⟩) (hqK:q.K=some ⟨gd,od,none⟩) (hm1:t.kids.length=m1) (hm2:u.kids.length=m2) (hga:ga<w0.heap.size) (hgd:gd<w0.heap.size) (him1:i<m1) (him2:i<m2) (hpe:m1≤9223372036854775807) (hqe:m2≤9223372036854775807) (him9:i≤3) (ca0:w0.cell? ⟨ga,oa+i * 8,none⟩=some (.int .i64 x.kind)) (ca1:w0.cell? ⟨ga,oa+i * 8+1,none⟩=some (.int .i64 x.num)) (ca2:w0.cell? ⟨ga,oa+i * 8+2,none⟩=some (.string x.name)) (ca3:w0.cell? ⟨ga,oa+i * 8+3,none⟩=some (.int .i64 x.lv.kind)) (ca4:w0.cell? ⟨ga,oa+i * 8+4,none⟩=some (.int .i64 x.lv.num)) (ca5:w0.cell? ⟨ga,oa+i * 8+5,none⟩=some (.slice qx.A x.lv.kids.length qx.c)) (ca6:w0.cell? ⟨ga,oa+i * 8+6,none⟩=some (.slice qx.B x.ls.length qx.d)) (ca7:w0.cell? ⟨ga,oa+i * 8+7,none⟩=some (.slice qx.K x.kids.length qx.e)) (cb0:w0.cell? ⟨gd,od+i * 8,none⟩=some (.int .i64 y.kind)) (cb1:w0.cell? ⟨gd,od+i * 8+1,none⟩=some (.int .i64 y.num)) (cb2:w0.cell? ⟨gd,od+i * 8+2,none⟩=some (.string y.name)) (cb3:w0.cell? ⟨gd,od+i * 8+3,none⟩=some (.int .i64 y.lv.kind)) (cb4:w0.cell? ⟨gd,od+i * 8+4,none⟩=some (.int .i64 y.lv.num)) (cb5:w0.cell? ⟨gd,od+i * 8+5,none⟩=some (.slice qy.A y.lv.kids.length qy.c)) (cb6:w0.cell? ⟨gd,od+i * 8+6,none⟩=some (.slice qy.B y.ls.length qy.d)) (cb7:w0.cell? ⟨gd,od+i * 8+7,none⟩=some (.slice qy.K y.kids.length qy.e)) (hIH:∀ w,Below w0.heap.size w0 w→Calls Try.prog 68 #[tmV qx x,tmV qy y] w fun e w'=>e=.returned (.bool r)∧Below w.heap.size w w')
  (hend:∀ (w':World),Chg (fun k=>False∨False) w0 w'→Q .normal { tmps:=(s0 :: s1 :: (.pointer (some ⟨g,0,none⟩)) :: (.pointer (some ⟨h,0,none⟩)) :: s4 :: s5 :: (.int .i64 i) :: s7 :: s8 :: s9 :: s10 :: s11 :: s12 :: s13 :: s14 :: s15 :: s16 :: s17 :: s18 :: s19 :: s20 :: s21 :: s22 :: s23 :: s24 :: s25 :: s26 :: s27 :: s28 :: s29 :: s30 :: s31 :: s32 :: s33 :: s34 :: s35 :: s36 :: s37 :: s38 :: s39 :: s40 :: s41 :: s42 :: s43 :: s44 :: s45 :: s46 :: s47 :: s48 :: s49 :: s50 :: s51 :: s52 :: s53 :: s54 :: s55 :: s56 :: s57 :: s58 :: s59 :: s60 :: s61 :: s62 :: s63 :: s64 :: s65 :: s66 :: s67 :: s68 :: s69 :: s70 :: s71 :: s72 :: s73 :: s74 :: s75 :: s76 :: s77 :: (.pointer (some ⟨g,7,none⟩)) :: (.slice (some ⟨ga,oa,none⟩) m1 p.e) :: (.int .i64 i) :: (.pointer (some ⟨ga,oa+i * 8,none⟩)) :: (tmV qx x) :: (.pointer (some ⟨h,7,none⟩)) :: (.slice (some ⟨gd,od,none⟩) m2 q.e) :: (.int .i64 i) :: (.pointer (some ⟨gd,od+i * 8,none⟩)) :: (tmV qy y) :: (.bool r) :: (.bool (!r)) :: s90 :: []:List Value).toArray,defers:=[] } w') :
  (Code.region id nrk_ops.toArray true).wp Try.prog Q { tmps:=(s0 :: s1 :: (.pointer (some ⟨g,0,none⟩)) :: (.pointer (some ⟨h,0,none⟩)) :: s4 :: s5 :: (.int .i64 i) :: s7 :: s8 :: s9 :: s10 :: s11 :: s12 :: s13 :: s14 :: s15 :: s16 :: s17 :: s18 :: s19 :: s20 :: s21 :: s22 :: s23 :: s24 :: s25 :: s26 :: s27 :: s28 :: s29 :: s30 :: s31 :: s32 :: s33 :: s34 :: s35 :: s36 :: s37 :: s38 :: s39 :: s40 :: s41 :: s42 :: s43 :: s44 :: s45 :: s46 :: s47 :: s48 :: s49 :: s50 :: s51 :: s52 :: s53 :: s54 :: s55 :: s56 :: s57 :: s58 :: s59 :: s60 :: s61 :: s62 :: s63 :: s64 :: s65 :: s66 :: s67 :: s68 :: s69 :: s70 :: s71 :: s72 :: s73 :: s74 :: s75 :: s76 :: s77 :: s78 :: s79 :: s80 :: s81 :: s82 :: s83 :: s84 :: s85 :: s86 :: s87 :: s88 :: s89 :: s90 :: []:List Value).toArray,defers:=[] } w0:=by
 refine wp_region_est (by kernel_rfl) (est2 0 0 (fun _=>False) (fun _=>False)) nrk_C (nrk_F w0 g h i p q t u ga oa gd od m1 m2 qx qy x y r) (est2_dis (fun _ h _=>h)) (est2_range (fun _ h=>h.elim) (fun _ h=>h.elim)) (by rfl) (by kernel_rfl) (nrk_obs w0.drew g h i p q t u ga oa gd od m1 m2 qx qy x y r hx2 hx3 hpK hqK hm1 hm2 hga hgd him1 him2 hpe hqe him9 ca0 ca1 ca2 ca3 ca4 ca5 ca6 ca7 cb0 cb1 cb2 cb3 cb4 cb5 cb6 cb7 (fun w h=>hIH w (below_undrew h)) _ _ rfl rfl rfl) ?_
 intro a w' O hd hs hb hf hf2 ha hsame
 have hl:=slots_eq (ops:=nrk_ops.toArray) [(78,.pointer (some ⟨g,7,none⟩)),(79,.slice (some ⟨ga,oa,none⟩) m1 p.e),(80,.int .i64 i),(81,.pointer (some ⟨ga,oa+i * 8,none⟩)),(82,tmV qx x),(83,.pointer (some ⟨h,7,none⟩)),(84,.slice (some ⟨gd,od,none⟩) m2 q.e),(85,.int .i64 i),(86,.pointer (some ⟨gd,od+i * 8,none⟩)),(87,tmV qy y),(88,.bool r),(89,.bool (!r))] (show a.tmps.size=91 from hs) (fun i h=>hsame i h) ⟨(hf 0 _ 78 rfl rfl (by decide)).1,(hf 1 _ 79 rfl rfl (by decide)).1,(hf 2 _ 80 rfl rfl (by decide)).1,(hf 3 _ 81 rfl rfl (by decide)).1,(hf 4 _ 82 rfl rfl (by decide)).1,(hf 5 _ 83 rfl rfl (by decide)).1,(hf 6 _ 84 rfl rfl (by decide)).1,(hf 7 _ 85 rfl rfl (by decide)).1,(hf 8 _ 86 rfl rfl (by decide)).1,(hf 9 _ 87 rfl rfl (by decide)).1,(hf 10 _ 88 rfl rfl (by decide)).1,(hf 11 _ 89 rfl rfl (by decide)).1,trivial⟩ (by kernel_rfl)
 obtain ⟨tmps,defers⟩:=a
 obtain rfl:defers=[]:=hd
 have hl':tmps=_:=hl
 rw [hl']
 have hb':=est2_chg hb
 refine Eq.mp ?_ (hend w' ⟨hb'.os,hb'.tape,hb'.output,hb'.size,hb'.block⟩)
 kernel_rfl

end Go.Proofs.Ytdboloabpjmgaaa

namespace Go.Proofs.Ytdboloabpjmgaaa
open Go.RowKit Go.Proofs.YtdboloabpjmgaaaW.PrintWords Go.RegionInvYtdboloabpjmgaaa Go.RegionEYtdboloabpjmgaaa

mutual
def simB:Lv→Lv→Bool
 | .mk k n ks,l=>decide (k=l.kind) && (decide (k=4) || decide (n=l.num)) && decide (ks.length=l.kids.length) && simKs ks l.kids
def simKs:List Lv→List Lv→Bool
 | [],_=>true
 | x :: r,ys=>match ys with
  | []=>true
  | y :: s=>simB x y && simKs r s
end
theorem sim_mk (k n:Int) (ks:List Lv) (l:Lv):simB (.mk k n ks) l=(decide (k=l.kind) && (decide (k=4) || decide (n=l.num)) && decide (ks.length=l.kids.length) && simKs ks l.kids):=by rw [simB]
theorem simKs_nil (ys:List Lv):simKs [] ys=true:=by rw [simKs]
theorem simKs_cons (x y:Lv) (r s:List Lv):simKs (x :: r) (y :: s)=(simB x y && simKs r s):=by rw [simKs]
theorem sim_bad {k n:Int} {ks:List Lv} {l:Lv} (h:¬ (k=l.kind∧(k=4∨n=l.num)∧ks.length=l.kids.length)):simB (.mk k n ks) l=false:=by
 rw [sim_mk]
 cases hb:simKs ks l.kids <;> simp_all
theorem sim_ok {k n:Int} {ks:List Lv} {l:Lv} (h:k=l.kind∧(k=4∨n=l.num)∧ks.length=l.kids.length):simB (.mk k n ks) l=simKs ks l.kids:=by
 rw [sim_mk]
 simp only [h.1,h.2.2,decide_true,Bool.true_and,Bool.and_true]
 rcases h.2.1 with h' | h'
 ·rw [← h.1,h'];simp
 ·rw [h'];simp
theorem simKs_all:∀ {ks ys:List Lv},ks.length=ys.length→(∀ (i:Nat) (x y:Lv),ks[i]?=some x→ys[i]?=some y→simB x y=true)→simKs ks ys=true
 | [],_,_,_=>simKs_nil _
 | a :: r,[],h,_=>by simp at h
 | a :: r,b :: s,h,hall=>by
  rw [simKs_cons,hall 0 a b rfl rfl,simKs_all (by simpa using h) fun i x y h1 h2=>hall (i+1) x y (by simpa using h1) (by simpa using h2)];rfl
def SamePost (w:World) (g:Nat) (r:Bool) (s1:Int) (e:Ending) (w':World):Prop:=e=.returned (.bool r)∧(∃ s',NumAt w' g s'∧(r=true→s'=s1))∧Chg (fun k=>k=g) w w'
end Go.Proofs.Ytdboloabpjmgaaa

namespace Go.Proofs.Ytdboloabpjmgaaa
open Go.RowKit Go.Proofs.YtdboloabpjmgaaaW.PrintWords Go.RegionInvYtdboloabpjmgaaa Go.RegionEYtdboloabpjmgaaa
set_option linter.unusedVariables false

def sm_ops:List Oper:=[
 { dst:=some 49,op:=Go.Op.fieldAddr 25 (Go.Operand.tmp 3) 2,type:=0,pos:= "ref.go:253",after:=#[],guard:=none },
 { dst:=some 50,op:=Go.Op.load 23 (Go.Operand.tmp 49),type:=23,pos:= "ref.go:253",after:=#[{ on:=0,ground:=Go.Ground.data }],guard:=none },
 { dst:=some 51,op:=Go.Op.move (Go.Operand.tmp 7),type:=3,pos:= "ref.go:253",after:=#[],guard:=none },
 { dst:=some 52,op:=Go.Op.indexAddr 23 (Go.Operand.tmp 50) (Go.Operand.tmp 51),type:=0,pos:= "ref.go:253",after:=#[{ on:=1,ground:=Go.Ground.data },{ on:=2,ground:=Go.Ground.data }],guard:=none },
 { dst:=some 53,op:=Go.Op.load 25 (Go.Operand.tmp 52),type:=25,pos:= "ref.go:253",after:=#[{ on:=3,ground:=Go.Ground.data }],guard:=none },
 { dst:=some 54,op:=Go.Op.fieldAddr 25 (Go.Operand.tmp 4) 2,type:=0,pos:= "ref.go:253",after:=#[],guard:=none },
 { dst:=some 55,op:=Go.Op.load 23 (Go.Operand.tmp 54),type:=23,pos:= "ref.go:253",after:=#[{ on:=5,ground:=Go.Ground.data }],guard:=none },
 { dst:=some 56,op:=Go.Op.move (Go.Operand.tmp 7),type:=3,pos:= "ref.go:253",after:=#[],guard:=none },
 { dst:=some 57,op:=Go.Op.indexAddr 23 (Go.Operand.tmp 55) (Go.Operand.tmp 56),type:=0,pos:= "ref.go:253",after:=#[{ on:=6,ground:=Go.Ground.data },{ on:=7,ground:=Go.Ground.data }],guard:=none },
 { dst:=some 58,op:=Go.Op.load 25 (Go.Operand.tmp 57),type:=25,pos:= "ref.go:253",after:=#[{ on:=8,ground:=Go.Ground.data }],guard:=none },
 { dst:=some 59,op:=Go.Op.move (Go.Operand.tmp 2),type:=73,pos:= "ref.go:253",after:=#[],guard:=none },
 { dst:=some 60,op:=Go.Op.call { callee:=Go.Callee.value (Go.Operand.func 102),args:=#[Go.Operand.tmp 53,Go.Operand.tmp 58,Go.Operand.tmp 59],argTypes:=#[25,25,73] },type:=4,pos:= "ref.go:253",after:=#[{ on:=4,ground:=Go.Ground.data },{ on:=9,ground:=Go.Ground.data },{ on:=10,ground:=Go.Ground.data }],guard:=none },
 { dst:=some 61,op:=Go.Op.unOp Go.UnOp.not 4 (Go.Operand.tmp 60),type:=4,pos:= "ref.go:253",after:=#[{ on:=11,ground:=Go.Ground.data }],guard:=none }]
def sm_F (w0:World) (g b:Nat) (i:Nat) (k1 n1 k2 n2:Int) (ga oa gd od m ca cd:Nat) (xk xn yk yn:Int) (A1 A2:Option Addr) (m1 c1 m2 c2:Nat) (r:Bool) (cnt1:Int):Nat→(Nat→Value)→Value→World→(Nat→Prop)→Prop:=fun rix=>match rix with
 | 0=>fun _ v _ _=>v=.pointer (some ⟨b,2,none⟩)
 | 1=>fun _ v _ _=>v=.slice (some ⟨ga,oa,none⟩) m ca
 | 2=>fun _ v _ _=>v=.int .i64 i
 | 3=>fun _ v _ _=>v=.pointer (some ⟨ga,oa+i * 3,none⟩)
 | 4=>fun _ v _ _=>v=.agg #[.int .i64 xk,.int .i64 xn,.slice A1 m1 c1]
 | 5=>fun _ v _ _=>v=.pointer (some ⟨b+1,2,none⟩)
 | 6=>fun _ v _ _=>v=.slice (some ⟨gd,od,none⟩) m cd
 | 7=>fun _ v _ _=>v=.int .i64 i
 | 8=>fun _ v _ _=>v=.pointer (some ⟨gd,od+i * 3,none⟩)
 | 9=>fun _ v _ _=>v=.agg #[.int .i64 yk,.int .i64 yn,.slice A2 m2 c2]
 | 10=>fun _ v _ _=>v=.pointer (some ⟨g,0,none⟩)
 | 11=>fun τ v w O=>(v=.bool r∧O g∧∃ s',NumAt w g s'∧(r=true→s'=cnt1))
 | 12=>fun _ v _ _=>v=.bool (!r)
 | _=>fun _ _ _ _=>True
def sm_C:Nat→List Nat:=fun rix=>match rix with
 | _=>[]
theorem sm_nw2:nwB sm_ops.toArray 2=true:=by kernel_rfl
theorem sm_nw3:nwB sm_ops.toArray 3=true:=by kernel_rfl
theorem sm_nw4:nwB sm_ops.toArray 4=true:=by kernel_rfl
theorem sm_nw7:nwB sm_ops.toArray 7=true:=by kernel_rfl
set_option maxRecDepth 100000 in
set_option maxHeartbeats 8000000 in
theorem sm_obs (w0:World) (g b:Nat) (i:Nat) (k1 n1 k2 n2:Int) (ga oa gd od m ca cd:Nat) (xk xn yk yn:Int) (A1 A2:Option Addr) (m1 c1 m2 c2:Nat) (r:Bool) (cnt1:Int) (hx3:w0.heap[b]?=some (.cells #[.int .i64 k1,.int .i64 n1,.slice (some ⟨ga,oa,none⟩) m ca] 25 (0,0))) (hx4:w0.heap[b+1]?=some (.cells #[.int .i64 k2,.int .i64 n2,.slice (some ⟨gd,od,none⟩) m cd] 25 (0,0))) (hgb:g<b) (hga:ga<w0.heap.size) (hgag:ga≠g) (hgd:gd<w0.heap.size) (hgdg:gd≠g) (him:i<m) (hc0:w0.cell? ⟨ga,oa+i * 3,none⟩=some (.int .i64 xk)) (hc1:w0.cell? ⟨ga,oa+i * 3+1,none⟩=some (.int .i64 xn)) (hc2:w0.cell? ⟨ga,oa+i * 3+2,none⟩=some (.slice A1 m1 c1)) (hd0:w0.cell? ⟨gd,od+i * 3,none⟩=some (.int .i64 yk)) (hd1:w0.cell? ⟨gd,od+i * 3+1,none⟩=some (.int .i64 yn)) (hd2:w0.cell? ⟨gd,od+i * 3+2,none⟩=some (.slice A2 m2 c2)) {cnt0:Int} (hg:NumAt w0 g cnt0) (hrec:∀ w,(∀ k,k<w0.heap.size→k≠g→w.heap[k]?=w0.heap[k]?)→NumAt w g cnt0→w0.heap.size≤w.heap.size→Calls Try.prog 102 #[.agg #[.int .i64 xk,.int .i64 xn,.slice A1 m1 c1],.agg #[.int .i64 yk,.int .i64 yn,.slice A2 m2 c2],.pointer (some ⟨g,0,none⟩)] w (SamePost w g r cnt1)) (Q:Exit→Act→World→Prop) (a0:Act) (hi2:a0.tmps.getD 2 undef=.pointer (some ⟨g,0,none⟩)) (hi3:a0.tmps.getD 3 undef=.pointer (some ⟨b,0,none⟩)) (hi4:a0.tmps.getD 4 undef=.pointer (some ⟨b+1,0,none⟩)) (hi7:a0.tmps.getD 7 undef=.int .i64 i) :
  ObsE Try.prog sm_ops.toArray Q (est2 11 0 (fun k=>k=g) (fun _=>False)) sm_C (sm_F w0 g b i k1 n1 k2 n2 ga oa gd od m ca cd xk xn yk yn A1 A2 m1 c1 m2 c2 r cnt1) a0 w0 sm_ops.toArray.toList 0:=by
 have nw2:=sm_nw2
 have nw3:=sm_nw3
 have nw4:=sm_nw4
 have nw7:=sm_nw7
 refine ⟨?_,?_,?_,?_,?_,?_,?_,?_,?_,?_,?_,?_,?_,trivial⟩
 ·refine ⟨⟨fun τ=>stableE_det _,leans_not⟩,?_⟩
  intro a w O hk
  have e3:a.eval (.tmp 3)=.pointer (some ⟨b,0,none⟩):=(hk.init 3 (initialB_of_nw nw3)).trans hi3
  exact obE_run (wanted_none rfl) (by unfold execOp;simp only [];rw [e3];go_simp) rfl
 ·refine ⟨⟨fun τ=>stableE_det _,leans_not⟩,?_⟩
  intro a w O hk
  have e49:a.eval (.tmp 49)=.pointer (some ⟨b,2,none⟩):=hk.fact 0 _ 49 rfl rfl rfl rfl
  have x3:=hk.world.still hx3 (fun ⟨_,h⟩=>h.elim (fun h=>by have:b=g:=h.2;omega) And.right)
  have x4:=hk.world.still hx4 (fun ⟨_,h⟩=>h.elim (fun h=>by have:b+1=g:=h.2;omega) And.right)
  obtain ⟨p0,p1,p2,-,-,-⟩:=row3 x3
  obtain ⟨q0,q1,q2,-,-,-⟩:=row3 x4
  have hfx:∀ k,k<w0.heap.size→k≠g→w.heap[k]?=w0.heap[k]?:=fun k hkb hkg=>hk.fix k (est2_fix hkb (fun h=>hkg h) (fun h=>h))
  have hcc:∀ j,w.cell? ⟨ga,j,none⟩=w0.cell? ⟨ga,j,none⟩:=fun j=>cell_same (hfx _ hga hgag)
  have hcd:∀ j,w.cell? ⟨gd,j,none⟩=w0.cell? ⟨gd,j,none⟩:=fun j=>cell_same (hfx _ hgd hgdg)
  have r0:=(hcc _).trans hc0
  have r1:=(hcc _).trans hc1
  have r2:=(hcc _).trans hc2
  have t0:=(hcd _).trans hd0
  have t1:=(hcd _).trans hd1
  have t2:=(hcd _).trans hd2
  exact obE_run (wanted_none rfl) (by unfold execOp;simp only [];rw [e49];go_simp) rfl
 ·refine ⟨⟨fun τ=>stableE_det _,leans_not⟩,?_⟩
  intro a w O hk
  have e7:a.eval (.tmp 7)=.int .i64 i:=(hk.init 7 (initialB_of_nw nw7)).trans hi7
  exact toE (ob_move rfl e7 (wanted_none rfl) rfl)
 ·refine ⟨⟨fun τ=>stableE_det _,leans_not⟩,?_⟩
  intro a w O hk
  have e50:a.eval (.tmp 50)=.slice (some ⟨ga,oa,none⟩) m ca:=hk.fact 1 _ 50 rfl rfl rfl rfl
  have e51:a.eval (.tmp 51)=.int .i64 i:=hk.fact 2 _ 51 rfl rfl rfl rfl
  have x3:=hk.world.still hx3 (fun ⟨_,h⟩=>h.elim (fun h=>by have:b=g:=h.2;omega) And.right)
  have x4:=hk.world.still hx4 (fun ⟨_,h⟩=>h.elim (fun h=>by have:b+1=g:=h.2;omega) And.right)
  obtain ⟨p0,p1,p2,-,-,-⟩:=row3 x3
  obtain ⟨q0,q1,q2,-,-,-⟩:=row3 x4
  have hfx:∀ k,k<w0.heap.size→k≠g→w.heap[k]?=w0.heap[k]?:=fun k hkb hkg=>hk.fix k (est2_fix hkb (fun h=>hkg h) (fun h=>h))
  have hcc:∀ j,w.cell? ⟨ga,j,none⟩=w0.cell? ⟨ga,j,none⟩:=fun j=>cell_same (hfx _ hga hgag)
  have hcd:∀ j,w.cell? ⟨gd,j,none⟩=w0.cell? ⟨gd,j,none⟩:=fun j=>cell_same (hfx _ hgd hgdg)
  have r0:=(hcc _).trans hc0
  have r1:=(hcc _).trans hc1
  have r2:=(hcc _).trans hc2
  have t0:=(hcd _).trans hd0
  have t1:=(hcd _).trans hd1
  have t2:=(hcd _).trans hd2
  exact obE_run (wanted_none rfl) (by unfold execOp;simp only [];rw [e50,e51];go_simp) rfl
 ·refine ⟨⟨fun τ=>stableE_det _,leans_not⟩,?_⟩
  intro a w O hk
  have e52:a.eval (.tmp 52)=.pointer (some ⟨ga,oa+i * 3,none⟩):=hk.fact 3 _ 52 rfl rfl rfl rfl
  have x3:=hk.world.still hx3 (fun ⟨_,h⟩=>h.elim (fun h=>by have:b=g:=h.2;omega) And.right)
  have x4:=hk.world.still hx4 (fun ⟨_,h⟩=>h.elim (fun h=>by have:b+1=g:=h.2;omega) And.right)
  obtain ⟨p0,p1,p2,-,-,-⟩:=row3 x3
  obtain ⟨q0,q1,q2,-,-,-⟩:=row3 x4
  have hfx:∀ k,k<w0.heap.size→k≠g→w.heap[k]?=w0.heap[k]?:=fun k hkb hkg=>hk.fix k (est2_fix hkb (fun h=>hkg h) (fun h=>h))
  have hcc:∀ j,w.cell? ⟨ga,j,none⟩=w0.cell? ⟨ga,j,none⟩:=fun j=>cell_same (hfx _ hga hgag)
  have hcd:∀ j,w.cell? ⟨gd,j,none⟩=w0.cell? ⟨gd,j,none⟩:=fun j=>cell_same (hfx _ hgd hgdg)
  have r0:=(hcc _).trans hc0
  have r1:=(hcc _).trans hc1
  have r2:=(hcc _).trans hc2
  have t0:=(hcd _).trans hd0
  have t1:=(hcd _).trans hd1
  have t2:=(hcd _).trans hd2
  exact obE_run (wanted_none rfl) (by unfold execOp;simp only [];rw [e52];go_simp) rfl
 ·refine ⟨⟨fun τ=>stableE_det _,leans_not⟩,?_⟩
  intro a w O hk
  have e4:a.eval (.tmp 4)=.pointer (some ⟨b+1,0,none⟩):=(hk.init 4 (initialB_of_nw nw4)).trans hi4
  exact obE_run (wanted_none rfl) (by unfold execOp;simp only [];rw [e4];go_simp) rfl
 ·refine ⟨⟨fun τ=>stableE_det _,leans_not⟩,?_⟩
  intro a w O hk
  have e54:a.eval (.tmp 54)=.pointer (some ⟨b+1,2,none⟩):=hk.fact 5 _ 54 rfl rfl rfl rfl
  have x3:=hk.world.still hx3 (fun ⟨_,h⟩=>h.elim (fun h=>by have:b=g:=h.2;omega) And.right)
  have x4:=hk.world.still hx4 (fun ⟨_,h⟩=>h.elim (fun h=>by have:b+1=g:=h.2;omega) And.right)
  obtain ⟨p0,p1,p2,-,-,-⟩:=row3 x3
  obtain ⟨q0,q1,q2,-,-,-⟩:=row3 x4
  have hfx:∀ k,k<w0.heap.size→k≠g→w.heap[k]?=w0.heap[k]?:=fun k hkb hkg=>hk.fix k (est2_fix hkb (fun h=>hkg h) (fun h=>h))
  have hcc:∀ j,w.cell? ⟨ga,j,none⟩=w0.cell? ⟨ga,j,none⟩:=fun j=>cell_same (hfx _ hga hgag)
  have hcd:∀ j,w.cell? ⟨gd,j,none⟩=w0.cell? ⟨gd,j,none⟩:=fun j=>cell_same (hfx _ hgd hgdg)
  have r0:=(hcc _).trans hc0
  have r1:=(hcc _).trans hc1
  have r2:=(hcc _).trans hc2
  have t0:=(hcd _).trans hd0
  have t1:=(hcd _).trans hd1
  have t2:=(hcd _).trans hd2
  exact obE_run (wanted_none rfl) (by unfold execOp;simp only [];rw [e54];go_simp) rfl
 ·refine ⟨⟨fun τ=>stableE_det _,leans_not⟩,?_⟩
  intro a w O hk
  have e7:a.eval (.tmp 7)=.int .i64 i:=(hk.init 7 (initialB_of_nw nw7)).trans hi7
  exact toE (ob_move rfl e7 (wanted_none rfl) rfl)
 ·refine ⟨⟨fun τ=>stableE_det _,leans_not⟩,?_⟩
  intro a w O hk
  have e55:a.eval (.tmp 55)=.slice (some ⟨gd,od,none⟩) m cd:=hk.fact 6 _ 55 rfl rfl rfl rfl
  have e56:a.eval (.tmp 56)=.int .i64 i:=hk.fact 7 _ 56 rfl rfl rfl rfl
  have x3:=hk.world.still hx3 (fun ⟨_,h⟩=>h.elim (fun h=>by have:b=g:=h.2;omega) And.right)
  have x4:=hk.world.still hx4 (fun ⟨_,h⟩=>h.elim (fun h=>by have:b+1=g:=h.2;omega) And.right)
  obtain ⟨p0,p1,p2,-,-,-⟩:=row3 x3
  obtain ⟨q0,q1,q2,-,-,-⟩:=row3 x4
  have hfx:∀ k,k<w0.heap.size→k≠g→w.heap[k]?=w0.heap[k]?:=fun k hkb hkg=>hk.fix k (est2_fix hkb (fun h=>hkg h) (fun h=>h))
  have hcc:∀ j,w.cell? ⟨ga,j,none⟩=w0.cell? ⟨ga,j,none⟩:=fun j=>cell_same (hfx _ hga hgag)
  have hcd:∀ j,w.cell? ⟨gd,j,none⟩=w0.cell? ⟨gd,j,none⟩:=fun j=>cell_same (hfx _ hgd hgdg)
  have r0:=(hcc _).trans hc0
  have r1:=(hcc _).trans hc1
  have r2:=(hcc _).trans hc2
  have t0:=(hcd _).trans hd0
  have t1:=(hcd _).trans hd1
  have t2:=(hcd _).trans hd2
  exact obE_run (wanted_none rfl) (by unfold execOp;simp only [];rw [e55,e56];go_simp) rfl
 ·refine ⟨⟨fun τ=>stableE_det _,leans_not⟩,?_⟩
  intro a w O hk
  have e57:a.eval (.tmp 57)=.pointer (some ⟨gd,od+i * 3,none⟩):=hk.fact 8 _ 57 rfl rfl rfl rfl
  have x3:=hk.world.still hx3 (fun ⟨_,h⟩=>h.elim (fun h=>by have:b=g:=h.2;omega) And.right)
  have x4:=hk.world.still hx4 (fun ⟨_,h⟩=>h.elim (fun h=>by have:b+1=g:=h.2;omega) And.right)
  obtain ⟨p0,p1,p2,-,-,-⟩:=row3 x3
  obtain ⟨q0,q1,q2,-,-,-⟩:=row3 x4
  have hfx:∀ k,k<w0.heap.size→k≠g→w.heap[k]?=w0.heap[k]?:=fun k hkb hkg=>hk.fix k (est2_fix hkb (fun h=>hkg h) (fun h=>h))
  have hcc:∀ j,w.cell? ⟨ga,j,none⟩=w0.cell? ⟨ga,j,none⟩:=fun j=>cell_same (hfx _ hga hgag)
  have hcd:∀ j,w.cell? ⟨gd,j,none⟩=w0.cell? ⟨gd,j,none⟩:=fun j=>cell_same (hfx _ hgd hgdg)
  have r0:=(hcc _).trans hc0
  have r1:=(hcc _).trans hc1
  have r2:=(hcc _).trans hc2
  have t0:=(hcd _).trans hd0
  have t1:=(hcd _).trans hd1
  have t2:=(hcd _).trans hd2
  exact obE_run (wanted_none rfl) (by unfold execOp;simp only [];rw [e57];go_simp) rfl
 ·refine ⟨⟨fun τ=>stableE_det _,leans_not⟩,?_⟩
  intro a w O hk
  have e2:a.eval (.tmp 2)=.pointer (some ⟨g,0,none⟩):=(hk.init 2 (initialB_of_nw nw2)).trans hi2
  exact toE (ob_move rfl e2 (wanted_none rfl) rfl)
 ·refine ⟨⟨fun τ=>fun v w w' O h hz hk=>⟨h.1,h.2.1,by obtain ⟨s',h1,h2⟩:=h.2.2;exact ⟨s',(hk g (blk_lt h1) (.inr h.2.1)).trans h1,h2⟩⟩,leans_not⟩,?_⟩
  intro a w O hk
  have e53:a.eval (.tmp 53)=.agg #[.int .i64 xk,.int .i64 xn,.slice A1 m1 c1]:=hk.fact 4 _ 53 rfl rfl rfl rfl
  have e58:a.eval (.tmp 58)=.agg #[.int .i64 yk,.int .i64 yn,.slice A2 m2 c2]:=hk.fact 9 _ 58 rfl rfl rfl rfl
  have e59:a.eval (.tmp 59)=.pointer (some ⟨g,0,none⟩):=hk.fact 10 _ 59 rfl rfl rfl rfl
  have x3:=hk.world.still hx3 (fun ⟨_,h⟩=>h.elim (fun h=>by have:b=g:=h.2;omega) And.right)
  have x4:=hk.world.still hx4 (fun ⟨_,h⟩=>h.elim (fun h=>by have:b+1=g:=h.2;omega) And.right)
  obtain ⟨p0,p1,p2,-,-,-⟩:=row3 x3
  obtain ⟨q0,q1,q2,-,-,-⟩:=row3 x4
  have hfx:∀ k,k<w0.heap.size→k≠g→w.heap[k]?=w0.heap[k]?:=fun k hkb hkg=>hk.fix k (est2_fix hkb (fun h=>hkg h) (fun h=>h))
  have hcc:∀ j,w.cell? ⟨ga,j,none⟩=w0.cell? ⟨ga,j,none⟩:=fun j=>cell_same (hfx _ hga hgag)
  have hcd:∀ j,w.cell? ⟨gd,j,none⟩=w0.cell? ⟨gd,j,none⟩:=fun j=>cell_same (hfx _ hgd hgdg)
  have r0:=(hcc _).trans hc0
  have r1:=(hcc _).trans hc1
  have r2:=(hcc _).trans hc2
  have t0:=(hcd _).trans hd0
  have t1:=(hcd _).trans hd1
  have t2:=(hcd _).trans hd2
  refine obE_call #[.agg #[.int .i64 xk,.int .i64 xn,.slice A1 m1 c1],.agg #[.int .i64 yk,.int .i64 yn,.slice A2 m2 c2],.pointer (some ⟨g,0,none⟩)] rfl rfl rfl rfl (by simp only [List.map_cons,List.map_nil];rw [e53,e58,e59]) (wanted_none rfl) ((hrec w hfx ((hk.est 11 _ rfl (.inl rfl) g (.inl ⟨rfl,rfl⟩)).trans hg) hk.world.size).mono ?_)
  rintro e w' ⟨rfl,hn,hc⟩
  exact ⟨_,fun k=>k=g,rfl,⟨rfl,rfl,hn⟩,hc.mono fun k h=>.inr (.inl ⟨rfl,h⟩),fun k h=>.inl (.inr (.inl ⟨rfl,h⟩))⟩
 ·refine ⟨⟨fun τ=>stableE_det _,leans_not⟩,?_⟩
  intro a w O hk
  have f60:=hk.fact 11 _ 60 rfl rfl rfl rfl
  have g60:=hk.owns 11 rfl rfl
  have x3:=hk.world.still hx3 (fun ⟨_,h⟩=>h.elim (fun h=>by have:b=g:=h.2;omega) And.right)
  have x4:=hk.world.still hx4 (fun ⟨_,h⟩=>h.elim (fun h=>by have:b+1=g:=h.2;omega) And.right)
  obtain ⟨p0,p1,p2,-,-,-⟩:=row3 x3
  obtain ⟨q0,q1,q2,-,-,-⟩:=row3 x4
  have hfx:∀ k,k<w0.heap.size→k≠g→w.heap[k]?=w0.heap[k]?:=fun k hkb hkg=>hk.fix k (est2_fix hkb (fun h=>hkg h) (fun h=>h))
  have hcc:∀ j,w.cell? ⟨ga,j,none⟩=w0.cell? ⟨ga,j,none⟩:=fun j=>cell_same (hfx _ hga hgag)
  have hcd:∀ j,w.cell? ⟨gd,j,none⟩=w0.cell? ⟨gd,j,none⟩:=fun j=>cell_same (hfx _ hgd hgdg)
  have r0:=(hcc _).trans hc0
  have r1:=(hcc _).trans hc1
  have r2:=(hcc _).trans hc2
  have t0:=(hcd _).trans hd0
  have t1:=(hcd _).trans hd1
  have t2:=(hcd _).trans hd2
  have e60:a.eval (.tmp 60)=.bool r:=f60.1
  exact obE_run (wanted_none rfl) (by unfold execOp;simp only [];rw [e60];go_simp) rfl
set_option maxRecDepth 100000 in
set_option maxHeartbeats 8000000 in
theorem sm_region {Q:Exit→Act→World→Prop} {id:Nat} (w0:World) (g b:Nat) (i:Nat) (k1 n1 k2 n2:Int) (ga oa gd od m ca cd:Nat) (xk xn yk yn:Int) (A1 A2:Option Addr) (m1 c1 m2 c2:Nat) (r:Bool) (cnt1:Int) {s0 s1 s5 s6 s8 s9 s10 s11 s12 s13 s14 s15 s16 s17 s18 s19 s20 s21 s22 s23 s24 s25 s26 s27 s28 s29 s30 s31 s32 s33 s34 s35 s36 s37 s38 s39 s40 s41 s42 s43 s44 s45 s46 s47 s48 s49 s50 s51 s52 s53 s54 s55 s56 s57 s58 s59 s60 s61 s62:Value} (hx3:w0.heap[b]?=some (.cells #[.int .i64 k1,.int .i64 n1,.slice (some ⟨ga,oa,none⟩) m ca] 25 (0,0))) (hx4:w0.heap[b+1]?=some (.cells #[.int .i64 k2,.int .i64 n2,.slice (some ⟨gd,od,none⟩) m cd] 25 (0,0))) (hgb:g<b) (hga:ga<w0.heap.size) (hgag:ga≠g) (hgd:gd<w0.heap.size) (hgdg:gd≠g) (him:i<m) (hc0:w0.cell? ⟨ga,oa+i * 3,none⟩=some (.int .i64 xk)) (hc1:w0.cell? ⟨ga,oa+i * 3+1,none⟩=some (.int .i64 xn)) (hc2:w0.cell? ⟨ga,oa+i * 3+2,none⟩=some (.slice A1 m1 c1)) (hd0:w0.cell? ⟨gd,od+i * 3,none⟩=some (.int .i64 yk)) (hd1:w0.cell? ⟨gd,od+i * 3+1,none⟩=some (.int .i64 yn)) (hd2:w0.cell? ⟨gd,od+i * 3+2,none⟩=some (.slice A2 m2 c2)) {cnt0:Int} (hg:NumAt w0 g cnt0) (hrec:∀ w,(∀ k,k<w0.heap.size→k≠g→w.heap[k]?=w0.heap[k]?)→NumAt w g cnt0→w0.heap.size≤w.heap.size→Calls Try.prog 102 #[.agg #[.int .i64 xk,.int .i64 xn,.slice A1 m1 c1],.agg #[.int .i64 yk,.int .i64 yn,.slice A2 m2 c2],.pointer (some ⟨g,0,none⟩)] w (SamePost w g r cnt1))
  (hend:∀ (w':World) (u60:Value) (O11:Nat→Prop),Chg (fun k=>(fun k=>k=g) k∨(fun _=>False) k) w0 w'→((u60=.bool r∧O11 g∧∃ s',NumAt w' g s'∧(r=true→s'=cnt1)))→(∀ k,O11 k→k<w'.heap.size∧¬ Fix w0 (est2 11 0 (fun k=>k=g) (fun _=>False)) k)→Q .normal { tmps:=(s0 :: s1 :: (.pointer (some ⟨g,0,none⟩)) :: (.pointer (some ⟨b,0,none⟩)) :: (.pointer (some ⟨b+1,0,none⟩)) :: s5 :: s6 :: (.int .i64 i) :: s8 :: s9 :: s10 :: s11 :: s12 :: s13 :: s14 :: s15 :: s16 :: s17 :: s18 :: s19 :: s20 :: s21 :: s22 :: s23 :: s24 :: s25 :: s26 :: s27 :: s28 :: s29 :: s30 :: s31 :: s32 :: s33 :: s34 :: s35 :: s36 :: s37 :: s38 :: s39 :: s40 :: s41 :: s42 :: s43 :: s44 :: s45 :: s46 :: s47 :: s48 :: (.pointer (some ⟨b,2,none⟩)) :: (.slice (some ⟨ga,oa,none⟩) m ca) :: (.int .i64 i) :: (.pointer (some ⟨ga,oa+i * 3,none⟩)) :: (.agg #[.int .i64 xk,.int .i64 xn,.slice A1 m1 c1]) :: (.pointer (some ⟨b+1,2,none⟩)) :: (.slice (some ⟨gd,od,none⟩) m cd) :: (.int .i64 i) :: (.pointer (some ⟨gd,od+i * 3,none⟩)) :: (.agg #[.int .i64 yk,.int .i64 yn,.slice A2 m2 c2]) :: (.pointer (some ⟨g,0,none⟩)) :: u60 :: (.bool (!r)) :: s62 :: []:List Value).toArray,defers:=[] } w') :
  (Code.region id sm_ops.toArray true).wp Try.prog Q { tmps:=(s0 :: s1 :: (.pointer (some ⟨g,0,none⟩)) :: (.pointer (some ⟨b,0,none⟩)) :: (.pointer (some ⟨b+1,0,none⟩)) :: s5 :: s6 :: (.int .i64 i) :: s8 :: s9 :: s10 :: s11 :: s12 :: s13 :: s14 :: s15 :: s16 :: s17 :: s18 :: s19 :: s20 :: s21 :: s22 :: s23 :: s24 :: s25 :: s26 :: s27 :: s28 :: s29 :: s30 :: s31 :: s32 :: s33 :: s34 :: s35 :: s36 :: s37 :: s38 :: s39 :: s40 :: s41 :: s42 :: s43 :: s44 :: s45 :: s46 :: s47 :: s48 :: s49 :: s50 :: s51 :: s52 :: s53 :: s54 :: s55 :: s56 :: s57 :: s58 :: s59 :: s60 :: s61 :: s62 :: []:List Value).toArray,defers:=[] } w0:=by
 refine wp_region_est (by kernel_rfl) (est2 11 0 (fun k=>k=g) (fun _=>False)) sm_C (sm_F w0 g b i k1 n1 k2 n2 ga oa gd od m ca cd xk xn yk yn A1 A2 m1 c1 m2 c2 r cnt1) (est2_dis (fun k h1 h2=>h2)) (est2_range (fun k h=>by have:k=g:=h;have:=blk_lt hx3;omega) (fun k h=>h.elim)) (by rfl) (by kernel_rfl) (sm_obs w0.drew g b i k1 n1 k2 n2 ga oa gd od m ca cd xk xn yk yn A1 A2 m1 c1 m2 c2 r cnt1 hx3 hx4 hgb hga hgag hgd hgdg him hc0 hc1 hc2 hd0 hd1 hd2 hg hrec _ _ rfl rfl rfl rfl) ?_
 intro a w' O hd hs hb hf hf2 ha hsame
 have hl:=slots_eq (ops:=sm_ops.toArray) [(49,.pointer (some ⟨b,2,none⟩)),(50,.slice (some ⟨ga,oa,none⟩) m ca),(51,.int .i64 i),(52,.pointer (some ⟨ga,oa+i * 3,none⟩)),(53,.agg #[.int .i64 xk,.int .i64 xn,.slice A1 m1 c1]),(54,.pointer (some ⟨b+1,2,none⟩)),(55,.slice (some ⟨gd,od,none⟩) m cd),(56,.int .i64 i),(57,.pointer (some ⟨gd,od+i * 3,none⟩)),(58,.agg #[.int .i64 yk,.int .i64 yn,.slice A2 m2 c2]),(59,.pointer (some ⟨g,0,none⟩)),(60,a.tmps.getD 60 undef),(61,.bool (!r))] (show a.tmps.size=63 from hs) (fun i h=>hsame i h) ⟨(hf 0 _ 49 rfl rfl (by decide)).1,(hf 1 _ 50 rfl rfl (by decide)).1,(hf 2 _ 51 rfl rfl (by decide)).1,(hf 3 _ 52 rfl rfl (by decide)).1,(hf 4 _ 53 rfl rfl (by decide)).1,(hf 5 _ 54 rfl rfl (by decide)).1,(hf 6 _ 55 rfl rfl (by decide)).1,(hf 7 _ 56 rfl rfl (by decide)).1,(hf 8 _ 57 rfl rfl (by decide)).1,(hf 9 _ 58 rfl rfl (by decide)).1,(hf 10 _ 59 rfl rfl (by decide)).1,rfl,(hf 12 _ 61 rfl rfl (by decide)).1,trivial⟩ (by kernel_rfl)
 obtain ⟨tmps,defers⟩:=a
 obtain rfl:defers=[]:=hd
 have hl':tmps=_:=hl
 rw [hl']
 have hb':=est2_chg hb
 refine Eq.mp ?_ (hend w' (tmps.getD 60 undef) (O 11) ⟨hb'.os,hb'.tape,hb'.output,hb'.size,hb'.block⟩ (hf 11 _ 60 rfl rfl (by decide)).1 (hf 11 _ 60 rfl rfl (by decide)).2)
 kernel_rfl

end Go.Proofs.Ytdboloabpjmgaaa

namespace Go.Proofs.Ytdboloabpjmgaaa
open Go.RowKit Go.Proofs.YtdboloabpjmgaaaW.PrintWords Go.RegionInvYtdboloabpjmgaaa Go.RegionEYtdboloabpjmgaaa

mutual
def simC:Lv→Lv→Nat→Bool × Nat
 | .mk k n ks,l,s=>if 5000<s+1 then (true,s+1) else if k=l.kind∧(k=4∨n=l.num)∧ks.length=l.kids.length then simCK ks l.kids (s+1) else (false,s+1)
def simCK:List Lv→List Lv→Nat→Bool × Nat
 | [],_,s=>(true,s)
 | x :: r,ys,s=>match ys with
  | []=>(true,s)
  | y :: t=>if (simC x y s).1=true then simCK r t (simC x y s).2 else (false,(simC x y s).2)
end
theorem simC_mk (k n:Int) (ks:List Lv) (l:Lv) (s:Nat):simC (.mk k n ks) l s=if 5000<s+1 then (true,s+1) else if k=l.kind∧(k=4∨n=l.num)∧ks.length=l.kids.length then simCK ks l.kids (s+1) else (false,s+1):=by rw [simC]
theorem simCK_nil (ys:List Lv) (s:Nat):simCK [] ys s=(true,s):=by rw [simCK]
theorem simCK_cons (x y:Lv) (r t:List Lv) (s:Nat):simCK (x :: r) (y :: t) s=if (simC x y s).1=true then simCK r t (simC x y s).2 else (false,(simC x y s).2):=by rw [simCK]
theorem simC_over {l l':Lv} {s:Nat} (h:5000<s+1):simC l l' s=(true,s+1):=by cases l;rw [simC_mk,if_pos h]
theorem simC_bad {k n:Int} {ks:List Lv} {l:Lv} {s:Nat} (h0:¬ 5000<s+1) (h:¬ (k=l.kind∧(k=4∨n=l.num)∧ks.length=l.kids.length)):simC (.mk k n ks) l s=(false,s+1):=by rw [simC_mk,if_neg h0,if_neg h]
theorem simC_go {k n:Int} {ks:List Lv} {l:Lv} {s:Nat} (h0:¬ 5000<s+1) (h:k=l.kind∧(k=4∨n=l.num)∧ks.length=l.kids.length):simC (.mk k n ks) l s=simCK ks l.kids (s+1):=by rw [simC_mk,if_neg h0,if_pos h]
theorem simC_all (N:Nat):∀ (l:Lv),SizeOf.sizeOf l<N→∀ (l':Lv) (s:Nat),(simC l l' s).2≤s+sz l∧(s+sz l'≤5000→(simC l l' s).1=simB l l'∧((simC l l' s).1=true→(simC l l' s).2=s+sz l')):=by
 induction N with
 | zero=>intro l h;omega
 | succ N ih =>
  rintro ⟨k,n,ks⟩ hN l' s
  have key:∀ (xs ys:List Lv),(∀ x∈xs,SizeOf.sizeOf x<N)→xs.length=ys.length→∀ s,(simCK xs ys s).2≤s+szs xs∧(s+szs ys≤5000→(simCK xs ys s).1=simKs xs ys∧((simCK xs ys s).1=true→(simCK xs ys s).2=s+szs ys)):=by
   intro xs
   induction xs with
   | nil =>
    intro ys _ hl s
    cases ys with
    | nil=>rw [simCK_nil,simKs_nil,szs_nil];exact ⟨by simp,fun _=>⟨rfl,fun _=>rfl⟩⟩
    | cons y t=>simp at hl
   | cons x r ihr =>
    intro ys hx hl s
    cases ys with
    | nil=>simp at hl
    | cons y t =>
     obtain ⟨h1,h2⟩:=ih x (hx x (by simp)) y s
     rw [simCK_cons,simKs_cons,szs_cons,szs_cons]
     cases hb:(simC x y s).1 with
     | true =>
      rw [if_pos rfl]
      obtain ⟨h3,h4⟩:=ihr t (fun z hz=>hx z (by simp [hz])) (by simpa using hl) (simC x y s).2
      refine ⟨by omega,fun hs=>?_⟩
      obtain ⟨h5,h6⟩:=h2 (by omega)
      rw [hb] at h5
      have h7:=h6 hb
      obtain ⟨h8,h9⟩:=h4 (by omega)
      rw [← h5,h8]
      exact ⟨by simp,fun h=>by rw [h9 (h8.trans h),h7];omega⟩
     | false =>
      rw [if_neg (by simp)]
      refine ⟨by show (simC x y s).2≤_;omega,fun hs=>?_⟩
      obtain ⟨h5,-⟩:=h2 (by omega)
      rw [hb] at h5
      rw [← h5]
      exact ⟨by simp,fun h=>by simp at h⟩
  have hks:∀ x∈ks,SizeOf.sizeOf x<N:=fun x hx=>by
   have:=List.sizeOf_lt_of_mem hx
   have e:=Lv.mk.sizeOf_spec k n ks
   omega
  have hp:1≤sz l':=by cases l';rw [sz_mk];omega
  rw [sz_mk]
  by_cases h0:5000<s+1
  ·rw [simC_over h0]
   exact ⟨by show s+1≤_;omega,fun h=>by omega⟩
  ·by_cases h:k=l'.kind∧(k=4∨n=l'.num)∧ks.length=l'.kids.length
   ·rw [simC_go h0 h,sim_ok h]
    obtain ⟨h1,h2⟩:=key ks l'.kids hks h.2.2 (s+1)
    have hz:sz l'=szs l'.kids+1:=by cases l';rw [sz_mk];rfl
    refine ⟨by omega,fun hs=>?_⟩
    obtain ⟨h3,h4⟩:=h2 (by omega)
    exact ⟨h3,fun h=>by rw [h4 h];omega⟩
   ·rw [simC_bad h0 h,sim_bad h]
    exact ⟨by show s+1≤_;omega,fun _=>⟨rfl,fun h=>by simp at h⟩⟩
inductive LvM (M:Nat):Lv→Prop
 | mk {k n:Int} {ks:List Lv} (h:ks.length≤M) (hk:∀ x∈ks,LvM M x):LvM M (.mk k n ks)
theorem LvM.len {M:Nat} {k n:Int} {ks:List Lv} (h:LvM M (.mk k n ks)):ks.length≤M:=by cases h;assumption
theorem LvM.kid {M:Nat} {k n:Int} {ks:List Lv} (h:LvM M (.mk k n ks)):∀ x∈ks,LvM M x:=by cases h;assumption
theorem simC_ge (M N:Nat):∀ (l:Lv),SizeOf.sizeOf l<N→∀ (l':Lv) (s:Nat),LvM M l→s+1≤(simC l l' s).2∧(simC l l' s).2≤max (s+1) (5000+(5000 - s) * M):=by
 induction N with
 | zero=>intro l h;omega
 | succ N ih =>
  rintro ⟨k,n,ks⟩ hN l' s hm
  by_cases h0:5000<s+1
  ·rw [simC_over h0]
   exact ⟨Nat.le_refl _,Nat.le_max_left _ _⟩
  ·by_cases h:k=l'.kind∧(k=4∨n=l'.num)∧ks.length=l'.kids.length
   ·rw [simC_go h0 h]
    have key:∀ (xs ys:List Lv),(∀ x∈xs,SizeOf.sizeOf x<N∧LvM M x)→∀ t,s+1≤t→t≤(simCK xs ys t).2∧(simCK xs ys t).2≤max t (5000+(5000 - (s+1)) * M)+xs.length:=by
     intro xs
     induction xs with
     | nil=>intro ys _ t ht;rw [simCK_nil];exact ⟨Nat.le_refl _,Nat.le_max_left _ _⟩
     | cons x r ihr =>
      intro ys hx t ht
      cases ys with
      | nil=>rw [simCK];exact ⟨Nat.le_refl _,Nat.le_trans (Nat.le_max_left _ _) (Nat.le_add_right _ _)⟩
      | cons y u =>
       obtain ⟨h1,h2⟩:=ih x (hx x (by simp)).1 y t (hx x (by simp)).2
       have hmul:(5000 - t) * M≤(5000 - (s+1)) * M:=Nat.mul_le_mul_right _ (by omega)
       rw [simCK_cons,List.length_cons]
       cases hb:(simC x y t).1 with
       | true =>
        rw [if_pos rfl]
        obtain ⟨h3,h4⟩:=ihr u (fun z hz=>hx z (by simp [hz])) (simC x y t).2 (by omega)
        exact ⟨by omega,by omega⟩
       | false =>
        rw [if_neg (by simp)]
        exact ⟨by show t≤(simC x y t).2;omega,by show (simC x y t).2≤_;omega⟩
    obtain ⟨h1,h2⟩:=key ks l'.kids (fun x hx=>⟨by
     have:=List.sizeOf_lt_of_mem hx
     have e:=Lv.mk.sizeOf_spec k n ks
     omega,hm.kid x hx⟩) (s+1) (Nat.le_refl _)
    have hl:=hm.len
    have e:(5000 - s) * M=(5000 - (s+1)) * M+M:=by
     have:5000 - s=(5000 - (s+1))+1:=by omega
     rw [this,Nat.add_mul,Nat.one_mul]
    exact ⟨h1,by omega⟩
   ·rw [simC_bad h0 h]
    exact ⟨Nat.le_refl _,Nat.le_max_left _ _⟩
theorem simC_sim {l l':Lv} (h:sz l'≤5000):(simC l l' 0).1=simB l l':=((simC_all _ l (Nat.lt_succ_self _) l' 0).2 (by omega)).1
end Go.Proofs.Ytdboloabpjmgaaa

namespace Go.Proofs.Ytdboloabpjmgaaa
open Go.RowKit Go.Proofs.YtdboloabpjmgaaaW.PrintWords Go.RegionInvYtdboloabpjmgaaa Go.RegionEYtdboloabpjmgaaa

structure SmB (w wr:World) (g:Nat) (s:Int) (k1 n1:Int) (V1:Value) (k2 n2:Int) (V2:Value):Prop where
 x3:wr.heap[w.heap.size]?=some (.cells #[.int .i64 k1,.int .i64 n1,V1] 25 (0,0))
 x4:wr.heap[w.heap.size+1]?=some (.cells #[.int .i64 k2,.int .i64 n2,V2] 25 (0,0))
 num:NumAt wr g s
 chg:Chg (fun k=>k=g) w wr
end Go.Proofs.Ytdboloabpjmgaaa

namespace Go.Proofs.Ytdboloabpjmgaaa
open Go.RowKit Go.Proofs.YtdboloabpjmgaaaW.PrintWords Go.RegionInvYtdboloabpjmgaaa Go.RegionEYtdboloabpjmgaaa

theorem dropC_at {ks:List Lv} {j:Nat} {x:Lv} (h:ks[j]?=some x):ks.drop j=x :: ks.drop (j+1):=by
 obtain ⟨hj,rfl⟩:=List.getElem?_eq_some_iff.1 h
 exact List.drop_eq_getElem_cons hj
set_option maxRecDepth 4000 in
set_option maxHeartbeats 8000000 in
theorem ref_sameC (M:Nat) (hM:5001 * M+5000≤4611686018427387904) (N:Nat):∀ (l:Lv),SizeOf.sizeOf l<N→∀ (l':Lv) (A A':Option Addr) (c c':Nat) (s:Nat) (g:Nat) (w:World),LvS w (fun k=>k≠g) A c l→LvS w (fun k=>k≠g) A' c' l'→NumAt w g s→s≤4611686018427387904→LvM M l →
  Calls Try.prog 102 #[lvV A c l,lvV A' c' l',.pointer (some ⟨g,0,none⟩)] w (SamePost w g (simC l l' s).1 ((simC l l' s).2:Int)):=by
 induction N with
 | zero=>intro l h;omega
 | succ N ih =>
  rintro ⟨lk,ln,ks⟩ hN ⟨lk',ln',ks'⟩ A A' c c' s g w hin hin' hg hs hlm
  have IH:=Ak ih
  have HIN:=Ak hin
  have HIN':=Ak hin'
  have HG:=Ak hg
  have hcell:=hg.cell
  have hfz:=blk_frozen hg 0
  have hlen:=hin.len
  have hlen':=hin'.len
  have hglt:=blk_lt hg
  have hgne:g≠w.heap.size:=Nat.ne_of_lt hglt
  have hgne1:g≠w.heap.size+1:=by omega
  have HLM:=Ak hlm
  clear hlm
  clear ih hin hin' hg
  unfold lvV
  simp only [Lv.kind,Lv.num,Lv.kids] at hlen hlen' ⊢
  obtain ⟨m,hm⟩:∃ m,m=ks.length:=⟨_,rfl⟩
  obtain ⟨m',hm'⟩:∃ m',m'=ks'.length:=⟨_,rfl⟩
  rw [← hm] at hlen ⊢
  rw [← hm'] at hlen' ⊢
  have HM:=Ak hm
  have HM':=Ak hm'
  obtain ⟨W,hW⟩:∃ W,W=(((w.setCell ⟨g,0,none⟩ (.int .i64 ((s:Int)+1))).alloc (.cells #[.int .i64 lk,.int .i64 ln,.slice A m c] 25 (0,0))).alloc (.cells #[.int .i64 lk',.int .i64 ln',.slice A' m' c'] 25 (0,0))):=⟨_,rfl⟩
  have hst:SmB w W g ((s:Int)+1) lk ln (.slice A m c) lk' ln' (.slice A' m' c'):=by
   have hz:(w.setCell ⟨g,0,none⟩ (.int .i64 ((s:Int)+1))).heap.size=w.heap.size:=by simp [World.setCell]
   rw [hW]
   refine ⟨?_,?_,((HG.out.set _).alloc _).alloc _,chg_trans (chg_trans (chg_set _ _ _ _) (chg_alloc _ _ _)) (chg_alloc _ _ _)⟩
   ·have:=box0 (w.setCell ⟨g,0,none⟩ (.int .i64 ((s:Int)+1))) (.cells #[.int .i64 lk,.int .i64 ln,.slice A m c] 25 (0,0)) (.cells #[.int .i64 lk',.int .i64 ln',.slice A' m' c'] 25 (0,0))
    rwa [hz] at this
   ·have:=box1 (w.setCell ⟨g,0,none⟩ (.int .i64 ((s:Int)+1))) (.cells #[.int .i64 lk,.int .i64 ln,.slice A m c] 25 (0,0)) (.cells #[.int .i64 lk',.int .i64 ln',.slice A' m' c'] 25 (0,0))
    rwa [hz] at this
  have HST:=Ak hst
  clear hst hm hm'
  have hwr:IntKind.i64.wrap ((s:Int)+1)=(s:Int)+1:=by rw [Go.IntWalk.i64_left,Go.IntWalk.wrap64_in _ (by omega)]
  go_enter Try.func102,Try.ntmps102
  go_upto_region 2 with (fail)
  rw [← hW]
  clear hW hcell hfz
  have hcell:=HST.out.num.cell
  by_cases h50:5000<s+1
  ·have hlt5:(5000:Int)<(s:Int)+1:=by omega
   have HE:=Ak (simC_over (l:=.mk lk ln ks) (l':=.mk lk' ln' ks') h50)
   clear h50
   go_wp2
   go_ret
   exact ⟨by rw [HE.out] <;> rfl,⟨_,HST.out.num,fun _=>by rw [HE.out];simp⟩,HST.out.chg⟩
  have hlt5:¬ (5000:Int)<(s:Int)+1:=by omega
  have H50:=Ak h50
  clear h50
  obtain ⟨p0,p1,p2,-,-,-⟩:=row3 HST.out.x3
  obtain ⟨q0,q1,q2,-,-,-⟩:=row3 HST.out.x4
  by_cases hk:lk=lk'
  ·have hkb:(lk != lk')=false:=by simp [hk]
   by_cases hn:lk=4∨ln=ln'
   ·by_cases hmm:m=m'
    ·have hmb:((m:Int) != (m':Int))=false:=by simp [hmm]
     have HE:=Ak (simC_go (k:=lk) (n:=ln) (ks:=ks) (l:=.mk lk' ln' ks') H50.out ⟨hk,hn,by simp only [Lv.kids];rw [← HM.out,← HM'.out,hmm]⟩)
     go_upto_region 4 with (fail)
     go_cut [42] (fun v wr=>v=.bool false∧wr=W)
     case first =>
      by_cases hk4:lk=4
      ·have h4:(lk != 4)=false:=by simp [hk4]
       clear hk hn hk4 hmm
       go_wp2
       go_meet
       case rel=>exact ⟨rfl,by first | rfl | trivial⟩
      ·have h4:(lk != 4)=true:=by simp [hk4]
       have h5:(ln != ln')=false:=by simp;omega
       clear hk hn hk4 hmm
       go_wp2
       go_meet
       case rel=>exact ⟨rfl,by first | rfl | trivial⟩
     case rest =>
      obtain ⟨rfl,rfl⟩:=hcut
      subst hmm
      have HML:=Ak (show ks.length=ks'.length by rw [← HM.out,HM'.out])
      have hst0:SmB w wc g ((s+1:Nat):Int) lk ln (.slice A m c) lk' ln' (.slice A' m c'):=by
       rw [show ((s+1:Nat):Int)=(s:Int)+1 by omega]
       exact HST.out
      have HST0:=Ak hst0
      clear hk hn hkb hmb hcell HST hst0 q0 q1 q2
      go_wp2
      go_loopw [46] (fun i wr=>∃ (j t:Nat),i=.int .i64 j∧j≤m∧s+1≤t∧t≤5000+(5000 - (s+1)) * M+j∧Aside0 (simCK (ks.drop j) (ks'.drop j) t=simCK ks ks' (s+1))∧Aside0 (SmB w wr g ((t:Nat):Int) lk ln (.slice A m c) lk' ln' (.slice A' m c'))) (fun i _=>m - (intOf i).toNat)
      case atStart=>exact ⟨0,s+1,rfl,Nat.zero_le _,Nat.le_refl _,by omega,⟨by rw [List.drop_zero,List.drop_zero]⟩,HST0⟩
      case round =>
       clear HST0 p0 p1 p2
       obtain ⟨j,t,rfl,hj,hts1,hts2,HEQ,HST⟩:=hrel
       by_cases hlt:j<m
       ·obtain ⟨x,hx⟩:∃ x,ks[j]?=some x:=⟨_,List.getElem?_eq_getElem (by rw [← HM.out];exact hlt)⟩
        obtain ⟨y,hy⟩:∃ y,ks'[j]?=some y:=⟨_,List.getElem?_eq_getElem (by rw [← HM'.out];exact hlt)⟩
        have hinr:LvS wr (fun k=>k≠g) A c (.mk lk ln ks):=HIN.out.same fun k hk hz=>HST.out.chg.block k hz hk
        have hinr':LvS wr (fun k=>k≠g) A' c' (.mk lk' ln' ks'):=HIN'.out.same fun k hk hz=>HST.out.chg.block k hz hk
        obtain ⟨A1,c1,hcs,hxin⟩:=hinr.kid j x hx
        obtain ⟨A2,c2,hcs',hyin⟩:=hinr'.kid j y hy
        obtain ⟨ga,oa,rfl,hga⟩:=kid_ptr hcs
        obtain ⟨gd,od,rfl,hgd⟩:=kid_ptr hcs'
        have HC:=Ak (lit_kid hcs)
        have HC':=Ak (lit_kid hcs')
        have HX:=Ak hx
        have HY:=Ak hy
        have HXIN:=Ak hxin
        have HYIN:=Ak hyin
        have HDX:=Ak (dropC_at hx)
        have HDY:=Ak (dropC_at hy)
        have HXM:=Ak (HLM.out.kid x (List.mem_of_getElem? hx))
        have HLE:=Ak (simC_ge M _ x (Nat.lt_succ_self _) y t HXM.out)
        have hml:=HLM.out.len
        have hmj:j<M:=by have:=HM.out;omega
        have hmu:(5000 - (s+1)) * M≤5000 * M:=Nat.mul_le_mul_right _ (by omega)
        have htb:t≤4611686018427387904:=by omega
        clear hml hmu
        have hgal:=World.block_lt_of_cell? wr _ HC.out.1
        have hgdl:=World.block_lt_of_cell? wr _ HC'.out.1
        clear hinr hinr' hcs hcs' hx hy hxin hyin
        go_upto_region 9 with (fail)
        refine sm_region wr g w.heap.size j lk ln lk' ln' ga oa gd od m c c' x.kind x.num y.kind y.num A1 A2 x.kids.length c1 y.kids.length c2 (simC x y t).1 ((simC x y t).2:Int) HST.out.x3 HST.out.x4 hglt hgal hga hgdl hgd hlt HC.out.1 HC.out.2.1 HC.out.2.2 HC'.out.1 HC'.out.2.1 HC'.out.2.2 HST.out.num (fun w5 hw5 hn5 hz5=>?_) ?_
        ·exact IH.out x (Nat.lt_of_lt_of_le (kid_small HX.out) (Nat.le_of_lt_succ hN)) y A1 A2 c1 c2 t g w5 (HXIN.out.same fun k hk hz=>hw5 k hz hk) (HYIN.out.same fun k hk hz=>hw5 k hz hk) hn5 htb HXM.out
        ·intro w' u60 O11 hch hf hown
         clear hown
         obtain ⟨-,-,s',hns,hsr⟩:=hf
         have hcw:Chg (fun k=>k=g) wr w':=hch.mono fun k h=>h.elim id False.elim
         have hst1:SmB w w' g s' lk ln (.slice (some ⟨ga,oa,none⟩) m c) lk' ln' (.slice (some ⟨gd,od,none⟩) m c'):=⟨hcw.still HST.out.x3 (by omega),hcw.still HST.out.x4 (by omega),hns,chg_trans HST.out.chg hcw⟩
         have HST1:=Ak hst1
         cases hsim:(simC x y t).1 with
         | true =>
          have HS':=Ak (hsr hsim)
          have HEQ':=Ak (show simCK (ks.drop (j+1)) (ks'.drop (j+1)) (simC x y t).2=simCK ks ks' (s+1) by rw [← HEQ.out,HDX.out,HDY.out,simCK_cons,if_pos hsim])
          have hle1:s+1≤(simC x y t).2:=by have:=HLE.out.1;omega
          have hle2:(simC x y t).2≤5000+(5000 - (s+1)) * M+(j+1):=by have:=HLE.out.2;have hmul:(5000 - t) * M≤(5000 - (s+1)) * M:=Nat.mul_le_mul_right _ (by omega);omega
          clear hch hns hsr hcw hst1 hsim hmj htb hgal hgdl hga hgd hwr hgne hgne1 hs hlt5
          go_wp2
          go_roundw
          case rel=>exact ⟨j+1,(simC x y t).2,by go_num,by omega,hle1,hle2,HEQ',⟨by have h:=HST1.out;rw [HS'.out] at h;exact h⟩⟩
          case measure=>(simp [intOf];try omega)
         | false =>
          have HF:=Ak (show (simC (.mk lk ln ks) (.mk lk' ln' ks') s).1=false by rw [HE.out];show (simCK ks ks' (s+1)).1=false;rw [← HEQ.out,HDX.out,HDY.out,simCK_cons,if_neg (by rw [hsim];simp)])
          clear hch hns hsr hcw hst1 hsim hmj htb hgal hgdl hga hgd hwr hgne hgne1 hs hlt5
          go_wp2
          go_ret
          exact ⟨by rw [HF.out];rfl,⟨_,HST1.out.num,fun h=>by rw [HF.out] at h;cases h⟩,HST1.out.chg⟩
       ·obtain rfl:j=m:=by omega
        have hlt':decide ((j:Int)<j)=false:=by simp
        have HF:=Ak (show simC (.mk lk ln ks) (.mk lk' ln' ks') s=(true,t) by
         rw [HE.out]
         show simCK ks ks' (s+1)=_
         rw [← HEQ.out,List.drop_of_length_le (by rw [← HM.out];exact Nat.le_refl _),simCK_nil])
        go_wp2
        go_ret
        exact ⟨by rw [HF.out] <;> rfl,⟨_,HST.out.num,fun _=>by rw [HF.out]⟩,HST.out.chg⟩
    ·have hmb:((m:Int) != (m':Int))=true:=by simp;omega
     have HE:=Ak (simC_bad (k:=lk) (n:=ln) (ks:=ks) (l:=.mk lk' ln' ks') H50.out (fun h=>hmm (by have:=h.2.2;simp only [Lv.kids] at this;rw [HM.out,HM'.out];exact this)))
     by_cases hk4:lk=4
     ·have h4:(lk != 4)=false:=by simp [hk4]
      clear hk hn hk4 hmm
      go_wp2
      go_ret
      exact ⟨by rw [HE.out];rfl,⟨_,HST.out.num,fun h=>by rw [HE.out] at h;cases h⟩,HST.out.chg⟩
     ·have h4:(lk != 4)=true:=by simp [hk4]
      have h5:(ln != ln')=false:=by simp;omega
      clear hk hn hk4 hmm
      go_wp2
      go_ret
      exact ⟨by rw [HE.out];rfl,⟨_,HST.out.num,fun h=>by rw [HE.out] at h;cases h⟩,HST.out.chg⟩
   ·have h4:(lk != 4)=true:=by simp;omega
    have h5:(ln != ln')=true:=by simp;omega
    have HE:=Ak (simC_bad (k:=lk) (n:=ln) (ks:=ks) (l:=.mk lk' ln' ks') H50.out (fun h=>hn h.2.1))
    clear hk hn
    go_wp2
    go_ret
    exact ⟨by rw [HE.out];rfl,⟨_,HST.out.num,fun h=>by rw [HE.out] at h;cases h⟩,HST.out.chg⟩
  ·have hkb:(lk != lk')=true:=by simp [hk]
   have HE:=Ak (simC_bad (k:=lk) (n:=ln) (ks:=ks) (l:=.mk lk' ln' ks') H50.out (fun h=>hk h.1))
   clear hk
   go_wp2
   go_ret
   exact ⟨by rw [HE.out];rfl,⟨_,HST.out.num,fun h=>by rw [HE.out] at h;cases h⟩,HST.out.chg⟩
set_option maxHeartbeats 4000000 in
theorem refSameC_calls (M:Nat) (hM:5001 * M+5000≤4611686018427387904) (A A':Option Addr) (c c':Nat) (l l':Lv) (w:World) (hin:LvIn w w.heap.size A c l) (hin':LvIn w w.heap.size A' c' l') (hsz:LvM M l) :
  Calls Try.prog 71 #[lvV A c l,lvV A' c' l'] w fun e w'=>e=.returned (.bool (simC l l' 0).1)∧Below w.heap.size w w':=by
 have HIN:=Ak hin
 have HIN':=Ak hin'
 clear hin hin'
 unfold lvV
 go_enter Try.func71,Try.ntmps71
 obtain ⟨w3,hw3⟩:∃ w3,w3=(((w.alloc (.cells #[.int .i64 l.kind,.int .i64 l.num,.slice A l.kids.length c] 25 (0,0))).alloc (.cells #[.int .i64 l'.kind,.int .i64 l'.num,.slice A' l'.kids.length c'] 25 (0,0))).alloc (.cells #[.int .i64 0] 3 (0,0))):=⟨_,rfl⟩
 have hnew:NumAt w3 (w.heap.size+1+1) ((0:Nat):Int):=by
  have:=blk_new ((w.alloc (.cells #[.int .i64 l.kind,.int .i64 l.num,.slice A l.kids.length c] 25 (0,0))).alloc (.cells #[.int .i64 l'.kind,.int .i64 l'.num,.slice A' l'.kids.length c'] 25 (0,0))) (.cells #[.int .i64 0] 3 (0,0))
  rw [hw3]
  simpa [NumAt] using this
 have hb3:Below w.heap.size w w3:=by rw [hw3];exact below_alloc (below_alloc (below_alloc (Below.refl _ _) _) _) _
 have HNEW:=Ak hnew
 have HB3:=Ak hb3
 have HW3:=Ak hw3
 clear hnew hb3 hw3
 go_wp2_with (go_at_call 102;go_must (rw [← HW3.out];refine (ref_sameC M hM _ l (Nat.lt_succ_self _) l' A A' c c' 0 (w.heap.size+1+1) w3 (LvS.mono (HIN.out.stay HB3.out) fun k hk _=>by omega) (LvS.mono (HIN'.out.stay HB3.out) fun k hk _=>by omega) HNEW.out (by omega) hsz).mono ?_;rintro e w1 ⟨rfl,-,hc⟩;have HB:=Ak (Chg.trans_below HB3.out hc (fun _ e=>by omega) HB3.out.size);clear hc))
 go_ret
 exact ⟨rfl,HB.out⟩
end Go.Proofs.Ytdboloabpjmgaaa

namespace Go.Proofs.Ytdboloabpjmgaaa
open Go.RowKit Go.Proofs.YtdboloabpjmgaaaW.PrintWords Go.RegionInvYtdboloabpjmgaaa Go.RegionEYtdboloabpjmgaaa

def slB (a b:Lv):Bool:=simB a b || !soundB b
abbrev mostRow:Nat:=8796093022208
def OKL (a _b:Lv):Prop:=LvM mostRow a
theorem slC (a b:Lv):((simC a b 0).1 || !soundB b)=slB a b:=by
 unfold slB
 cases hs:soundB b with
 | false=>simp
 | true=>rw [simC_sim (by have:=((sound_iff b).1 hs).2.1;omega)]
set_option maxHeartbeats 4000000 in
theorem slevel_calls (A B:Option Addr) (c c':Nat) (a b:Lv) (w:World) (ho:OKL a b) (ha:LvIn w w.heap.size A c a) (hb:LvIn w w.heap.size B c' b) :
  Calls Try.prog 29 #[lvV A c a,lvV B c' b] w fun e w'=>e=.returned (.bool (slB a b))∧Below w.heap.size w w':=by
 have HA:=Ak ha
 have HC:=Ak hb
 have HO:=Ak (show LvM mostRow a from ho)
 have hla:a.kids.length≤9223372036854775807:=by have:=ha.len;omega
 have hlb:b.kids.length≤9223372036854775807:=by have:=hb.len;omega
 have HW:=Ak (show Below w.heap.size w (bx2 w A B c c' a b) from below_alloc (below_alloc (Below.refl _ _) _) _)
 have HY:=Ak (show (bx2 w A B c c' a b).heap[w.heap.size+1]?=some (.cells #[.int .i64 b.kind,.int .i64 b.num,.slice B b.kids.length c'] 25 (0,0)) from box1 w _ _)
 clear ha hb ho
 unfold lvV
 go_enter Try.func29,Try.ntmps29
 cases hs:(simC a b 0).1 with
 | true =>
  have HS:=Ak hs
  have HE:=Ak (show slB a b=true by rw [← slC,hs];rfl)
  clear hs
  go_wp2_with (go_at_call 71;go_must (refine (refSameC_calls mostRow (by decide) A B c c' a b (bx2 w A B c c' a b) (LvS.all (HA.out.stay HW.out)) (LvS.all (HC.out.stay HW.out)) HO.out).mono ?_;rintro e w1 ⟨rfl,hb⟩;rw [HS.out];have HB1:=Ak (below_then HW.out HW.out.size hb);clear hb))
  go_ret
  rw [HE.out]
  exact ⟨rfl,HB1.out⟩
 | false =>
  have HS:=Ak hs
  have HE:=Ak (show slB a b = !soundB b by rw [← slC,hs];rfl)
  clear hs
  go_wp2_with (first
   | (go_at_call 71;go_must (refine (refSameC_calls mostRow (by decide) A B c c' a b (bx2 w A B c c' a b) (LvS.all (HA.out.stay HW.out)) (LvS.all (HC.out.stay HW.out)) HO.out).mono ?_;rintro e w1 ⟨rfl,hb⟩;rw [HS.out];have HB1:=Ak (below_then HW.out HW.out.size hb);obtain ⟨p0,p1,p2,-,-,-⟩:=row3 (blk_below HY.out hb);clear hb))
   | (go_at_call 72;go_must (refine (refSound_calls B c' b w1 (LvS.all (HC.out.stay HB1.out))).mono ?_;rintro e w2 ⟨rfl,hb⟩;have HB2:=Ak (below_then HB1.out HB1.out.size hb);clear hb)))
  go_ret
  rw [HE.out]
  exact ⟨rfl,HB2.out⟩
end Go.Proofs.Ytdboloabpjmgaaa

namespace Go.Proofs.Ytdboloabpjmgaaa
open Go.RowKit Go.Proofs.YtdboloabpjmgaaaW.PrintWords Go.RegionInvYtdboloabpjmgaaa Go.RegionEYtdboloabpjmgaaa

theorem drop_lv {ks:List Lv} {i:Nat} {x:Lv} (h:ks[i]?=some x):ks.drop i=x :: ks.drop (i+1):=by
 obtain ⟨hl,rfl⟩:=List.getElem?_eq_some_iff.1 h
 exact List.drop_eq_getElem_cons hl
theorem kind_leaf {t:Tm} (h:t.kind=1∨t.kind=2∨t.kind=7):nK t=0∧leafR t=false:=by
 have ha:arZ t.kind=0:=if_pos h
 refine ⟨?_,?_⟩
 ·unfold nK;rw [ha];split <;> rfl
 ·unfold leafR;rw [ha];exact decide_eq_false (by omega)
theorem leafR_leaf {t:Tm} (h:leafT t=true) (h1:t.kind≠1) (h2:t.kind≠2) (h7:t.kind≠7):leafR t=true:=by
 have h0:=leaf_nK h
 unfold leafR
 unfold nK at h0
 have ha:arZ t.kind≠0:=by
  unfold arZ
  rw [if_neg (by omega)]
  split
  ·omega
  ·split <;> omega
 refine decide_eq_true ?_
 split at h0
 ·exact .inr (by assumption)
 ·exact .inl (by omega)
theorem nK_same {t u:Tm} (hk:t.kind=u.kind) (ht:leafT t=false) (hu:leafT u=false):nK t=nK u:=by
 have h1:=nK_ar (leaf_nK' ht)
 have h2:=nK_ar (leaf_nK' hu)
 rw [hk] at h1
 omega
theorem below_all {w W:World} {p:Pl} {t:Tm} (h:TmIn w w.heap.size p t) (hb:Below w.heap.size w W):TmIn W W.heap.size p t:=TmS.all (TmIn.stay h hb)
end Go.Proofs.Ytdboloabpjmgaaa

namespace Go.Proofs.Ytdboloabpjmgaaa
open Go.RowKit Go.Proofs.YtdboloabpjmgaaaW.PrintWords Go.RegionInvYtdboloabpjmgaaa Go.RegionEYtdboloabpjmgaaa
set_option linter.unusedVariables false

theorem slevel_at (A B:Option Addr) (c c' m m':Nat) (k n k' n':Int) (a b:Lv) (w:World) (hk:a.kind=k) (hn:a.num=n) (hm:a.kids.length=m) (hk':b.kind=k') (hn':b.num=n') (hm':b.kids.length=m') (ho:OKL a b) (ha:LvIn w w.heap.size A c a) (hb:LvIn w w.heap.size B c' b) :
  Calls Try.prog 29 #[.agg #[.int .i64 k,.int .i64 n,.slice A m c],.agg #[.int .i64 k',.int .i64 n',.slice B m' c']] w fun e w'=>e=.returned (.bool (slB a b))∧Below w.heap.size w w':=by
 subst hk hn hm hk' hn' hm'
 exact slevel_calls A B c c' a b w ho ha hb

def nrl_ops:List Oper:=[
 { dst:=some 59,op:=Go.Op.fieldAddr 28 (Go.Operand.tmp 2) 4,type:=0,pos:= "law.go:78",after:=#[],guard:=none },
 { dst:=some 60,op:=Go.Op.load 23 (Go.Operand.tmp 59),type:=23,pos:= "law.go:78",after:=#[{ on:=0,ground:=Go.Ground.data }],guard:=none },
 { dst:=some 61,op:=Go.Op.move (Go.Operand.tmp 5),type:=3,pos:= "law.go:78",after:=#[],guard:=none },
 { dst:=some 62,op:=Go.Op.indexAddr 23 (Go.Operand.tmp 60) (Go.Operand.tmp 61),type:=0,pos:= "law.go:78",after:=#[{ on:=1,ground:=Go.Ground.data },{ on:=2,ground:=Go.Ground.data }],guard:=none },
 { dst:=some 63,op:=Go.Op.load 25 (Go.Operand.tmp 62),type:=25,pos:= "law.go:78",after:=#[{ on:=3,ground:=Go.Ground.data }],guard:=none },
 { dst:=some 64,op:=Go.Op.fieldAddr 28 (Go.Operand.tmp 3) 4,type:=0,pos:= "law.go:78",after:=#[],guard:=none },
 { dst:=some 65,op:=Go.Op.load 23 (Go.Operand.tmp 64),type:=23,pos:= "law.go:78",after:=#[{ on:=5,ground:=Go.Ground.data }],guard:=none },
 { dst:=some 66,op:=Go.Op.move (Go.Operand.tmp 5),type:=3,pos:= "law.go:78",after:=#[],guard:=none },
 { dst:=some 67,op:=Go.Op.indexAddr 23 (Go.Operand.tmp 65) (Go.Operand.tmp 66),type:=0,pos:= "law.go:78",after:=#[{ on:=6,ground:=Go.Ground.data },{ on:=7,ground:=Go.Ground.data }],guard:=none },
 { dst:=some 68,op:=Go.Op.load 25 (Go.Operand.tmp 67),type:=25,pos:= "law.go:78",after:=#[{ on:=8,ground:=Go.Ground.data }],guard:=none },
 { dst:=some 69,op:=Go.Op.call { callee:=Go.Callee.value (Go.Operand.func 29),args:=#[Go.Operand.tmp 63,Go.Operand.tmp 68],argTypes:=#[25,25] },type:=4,pos:= "law.go:78",after:=#[{ on:=4,ground:=Go.Ground.data },{ on:=9,ground:=Go.Ground.data }],guard:=none },
 { dst:=some 70,op:=Go.Op.unOp Go.UnOp.not 4 (Go.Operand.tmp 69),type:=4,pos:= "law.go:78",after:=#[{ on:=10,ground:=Go.Ground.data }],guard:=none }]
def nrl_F (w0:World) (g h i:Nat) (p q:Pl) (t u:Tm) (ga oa gd od m1:Nat) (xk xn yk yn:Int) (A1 A2:Option Addr) (n1 c1 n2 c2:Nat) (r:Bool):Nat→(Nat→Value)→Value→World→(Nat→Prop)→Prop:=fun rix=>match rix with
 | 0=>fun _ v _ _=>v=.pointer (some ⟨g,6,none⟩)
 | 1=>fun _ v _ _=>v=.slice (some ⟨ga,oa,none⟩) m1 p.d
 | 2=>fun _ v _ _=>v=.int .i64 i
 | 3=>fun _ v _ _=>v=.pointer (some ⟨ga,oa+i * 3,none⟩)
 | 4=>fun _ v _ _=>v=.agg #[.int .i64 xk,.int .i64 xn,.slice A1 n1 c1]
 | 5=>fun _ v _ _=>v=.pointer (some ⟨h,6,none⟩)
 | 6=>fun _ v _ _=>v=.slice (some ⟨gd,od,none⟩) m1 q.d
 | 7=>fun _ v _ _=>v=.int .i64 i
 | 8=>fun _ v _ _=>v=.pointer (some ⟨gd,od+i * 3,none⟩)
 | 9=>fun _ v _ _=>v=.agg #[.int .i64 yk,.int .i64 yn,.slice A2 n2 c2]
 | 10=>fun _ v _ _=>v=.bool r
 | 11=>fun _ v _ _=>v=.bool (!r)
 | _=>fun _ _ _ _=>True
def nrl_C:Nat→List Nat:=fun rix=>match rix with
 | _=>[]
theorem nrl_nw2:nwB nrl_ops.toArray 2=true:=by kernel_rfl
theorem nrl_nw3:nwB nrl_ops.toArray 3=true:=by kernel_rfl
theorem nrl_nw5:nwB nrl_ops.toArray 5=true:=by kernel_rfl
set_option maxRecDepth 100000 in
set_option maxHeartbeats 8000000 in
theorem nrl_obs (w0:World) (g h i:Nat) (p q:Pl) (t u:Tm) (ga oa gd od m1:Nat) (xk xn yk yn:Int) (A1 A2:Option Addr) (n1 c1 n2 c2:Nat) (r:Bool) (hx2:w0.heap[g]?=some (tmO p t)) (hx3:w0.heap[h]?=some (tmO q u)) (hpB:p.B=some ⟨ga,oa,none⟩) (hqB:q.B=some ⟨gd,od,none⟩) (hm1:t.ls.length=m1) (hm2:u.ls.length=m1) (hga:ga<w0.heap.size) (hgd:gd<w0.heap.size) (him:i<m1) (hm9:m1≤9223372036854775807) (ca0:w0.cell? ⟨ga,oa+i * 3,none⟩=some (.int .i64 xk)) (ca1:w0.cell? ⟨ga,oa+i * 3+1,none⟩=some (.int .i64 xn)) (ca2:w0.cell? ⟨ga,oa+i * 3+2,none⟩=some (.slice A1 n1 c1)) (cb0:w0.cell? ⟨gd,od+i * 3,none⟩=some (.int .i64 yk)) (cb1:w0.cell? ⟨gd,od+i * 3+1,none⟩=some (.int .i64 yn)) (cb2:w0.cell? ⟨gd,od+i * 3+2,none⟩=some (.slice A2 n2 c2)) (hEQ:∀ w,Below w0.heap.size w0 w→Calls Try.prog 29 #[.agg #[.int .i64 xk,.int .i64 xn,.slice A1 n1 c1],.agg #[.int .i64 yk,.int .i64 yn,.slice A2 n2 c2]] w fun e w'=>e=.returned (.bool r)∧Below w.heap.size w w') (Q:Exit→Act→World→Prop) (a0:Act) (hi2:a0.tmps.getD 2 undef=.pointer (some ⟨g,0,none⟩)) (hi3:a0.tmps.getD 3 undef=.pointer (some ⟨h,0,none⟩)) (hi5:a0.tmps.getD 5 undef=.int .i64 i) :
  ObsE Try.prog nrl_ops.toArray Q (est2 0 0 (fun _=>False) (fun _=>False)) nrl_C (nrl_F w0 g h i p q t u ga oa gd od m1 xk xn yk yn A1 A2 n1 c1 n2 c2 r) a0 w0 nrl_ops.toArray.toList 0:=by
 have nw2:=nrl_nw2
 have nw3:=nrl_nw3
 have nw5:=nrl_nw5
 refine ⟨?_,?_,?_,?_,?_,?_,?_,?_,?_,?_,?_,?_,trivial⟩
 ·refine ⟨⟨fun τ=>stableE_det _,leans_not⟩,?_⟩
  intro a w O hk
  have e2:a.eval (.tmp 2)=.pointer (some ⟨g,0,none⟩):=(hk.init 2 (initialB_of_nw nw2)).trans hi2
  have x2:=hk.world.still hx2 (fun ⟨_,h⟩=>h.elim And.right And.right)
  have x3:=hk.world.still hx3 (fun ⟨_,h⟩=>h.elim And.right And.right)
  have hcc:∀ j,w.cell? ⟨ga,j,none⟩=w0.cell? ⟨ga,j,none⟩:=fun j=>cell_same ((hk.world.below (fun k ⟨_,h⟩=>h.elim (fun h=>h.2.elim) fun h=>h.2.elim) (Nat.le_refl _)).block _ hga)
  have hcd:∀ j,w.cell? ⟨gd,j,none⟩=w0.cell? ⟨gd,j,none⟩:=fun j=>cell_same ((hk.world.below (fun k ⟨_,h⟩=>h.elim (fun h=>h.2.elim) fun h=>h.2.elim) (Nat.le_refl _)).block _ hgd)
  have hbl:Below w0.heap.size w0 w:=(hk.world.below (fun k ⟨_,h⟩=>h.elim (fun h=>h.2.elim) fun h=>h.2.elim) (Nat.le_refl _))
  exact obE_run (wanted_none rfl) (by unfold execOp;simp only [];rw [e2];go_simp) rfl
 ·refine ⟨⟨fun τ=>stableE_det _,leans_not⟩,?_⟩
  intro a w O hk
  have e59:a.eval (.tmp 59)=.pointer (some ⟨g,6,none⟩):=hk.fact 0 _ 59 rfl rfl rfl rfl
  have x2:=hk.world.still hx2 (fun ⟨_,h⟩=>h.elim And.right And.right)
  have x3:=hk.world.still hx3 (fun ⟨_,h⟩=>h.elim And.right And.right)
  have hcc:∀ j,w.cell? ⟨ga,j,none⟩=w0.cell? ⟨ga,j,none⟩:=fun j=>cell_same ((hk.world.below (fun k ⟨_,h⟩=>h.elim (fun h=>h.2.elim) fun h=>h.2.elim) (Nat.le_refl _)).block _ hga)
  have hcd:∀ j,w.cell? ⟨gd,j,none⟩=w0.cell? ⟨gd,j,none⟩:=fun j=>cell_same ((hk.world.below (fun k ⟨_,h⟩=>h.elim (fun h=>h.2.elim) fun h=>h.2.elim) (Nat.le_refl _)).block _ hgd)
  have hbl:Below w0.heap.size w0 w:=(hk.world.below (fun k ⟨_,h⟩=>h.elim (fun h=>h.2.elim) fun h=>h.2.elim) (Nat.le_refl _))
  obtain ⟨p0,p1,p2,p3,p4,p5,p6,p7⟩:=row8 x2
  rw [hpB,hm1] at p6
  exact obE_run (wanted_none rfl) (by unfold execOp;simp only [];rw [e59];go_simp) rfl
 ·refine ⟨⟨fun τ=>stableE_det _,leans_not⟩,?_⟩
  intro a w O hk
  have e5:a.eval (.tmp 5)=.int .i64 i:=(hk.init 5 (initialB_of_nw nw5)).trans hi5
  exact toE (ob_move rfl e5 (wanted_none rfl) rfl)
 ·refine ⟨⟨fun τ=>stableE_det _,leans_not⟩,?_⟩
  intro a w O hk
  have e60:a.eval (.tmp 60)=.slice (some ⟨ga,oa,none⟩) m1 p.d:=hk.fact 1 _ 60 rfl rfl rfl rfl
  have e61:a.eval (.tmp 61)=.int .i64 i:=hk.fact 2 _ 61 rfl rfl rfl rfl
  have x2:=hk.world.still hx2 (fun ⟨_,h⟩=>h.elim And.right And.right)
  have x3:=hk.world.still hx3 (fun ⟨_,h⟩=>h.elim And.right And.right)
  have hcc:∀ j,w.cell? ⟨ga,j,none⟩=w0.cell? ⟨ga,j,none⟩:=fun j=>cell_same ((hk.world.below (fun k ⟨_,h⟩=>h.elim (fun h=>h.2.elim) fun h=>h.2.elim) (Nat.le_refl _)).block _ hga)
  have hcd:∀ j,w.cell? ⟨gd,j,none⟩=w0.cell? ⟨gd,j,none⟩:=fun j=>cell_same ((hk.world.below (fun k ⟨_,h⟩=>h.elim (fun h=>h.2.elim) fun h=>h.2.elim) (Nat.le_refl _)).block _ hgd)
  have hbl:Below w0.heap.size w0 w:=(hk.world.below (fun k ⟨_,h⟩=>h.elim (fun h=>h.2.elim) fun h=>h.2.elim) (Nat.le_refl _))
  exact obE_run (wanted_none rfl) (by unfold execOp;simp only [];rw [e60,e61];go_simp) rfl
 ·refine ⟨⟨fun τ=>stableE_det _,leans_not⟩,?_⟩
  intro a w O hk
  have e62:a.eval (.tmp 62)=.pointer (some ⟨ga,oa+i * 3,none⟩):=hk.fact 3 _ 62 rfl rfl rfl rfl
  have x2:=hk.world.still hx2 (fun ⟨_,h⟩=>h.elim And.right And.right)
  have x3:=hk.world.still hx3 (fun ⟨_,h⟩=>h.elim And.right And.right)
  have hcc:∀ j,w.cell? ⟨ga,j,none⟩=w0.cell? ⟨ga,j,none⟩:=fun j=>cell_same ((hk.world.below (fun k ⟨_,h⟩=>h.elim (fun h=>h.2.elim) fun h=>h.2.elim) (Nat.le_refl _)).block _ hga)
  have hcd:∀ j,w.cell? ⟨gd,j,none⟩=w0.cell? ⟨gd,j,none⟩:=fun j=>cell_same ((hk.world.below (fun k ⟨_,h⟩=>h.elim (fun h=>h.2.elim) fun h=>h.2.elim) (Nat.le_refl _)).block _ hgd)
  have hbl:Below w0.heap.size w0 w:=(hk.world.below (fun k ⟨_,h⟩=>h.elim (fun h=>h.2.elim) fun h=>h.2.elim) (Nat.le_refl _))
  have r0:=(hcc _).trans ca0
  have r1:=(hcc _).trans ca1
  have r2:=(hcc _).trans ca2
  exact obE_run (wanted_none rfl) (by unfold execOp;simp only [];rw [e62];go_simp) rfl
 ·refine ⟨⟨fun τ=>stableE_det _,leans_not⟩,?_⟩
  intro a w O hk
  have e3:a.eval (.tmp 3)=.pointer (some ⟨h,0,none⟩):=(hk.init 3 (initialB_of_nw nw3)).trans hi3
  have x2:=hk.world.still hx2 (fun ⟨_,h⟩=>h.elim And.right And.right)
  have x3:=hk.world.still hx3 (fun ⟨_,h⟩=>h.elim And.right And.right)
  have hcc:∀ j,w.cell? ⟨ga,j,none⟩=w0.cell? ⟨ga,j,none⟩:=fun j=>cell_same ((hk.world.below (fun k ⟨_,h⟩=>h.elim (fun h=>h.2.elim) fun h=>h.2.elim) (Nat.le_refl _)).block _ hga)
  have hcd:∀ j,w.cell? ⟨gd,j,none⟩=w0.cell? ⟨gd,j,none⟩:=fun j=>cell_same ((hk.world.below (fun k ⟨_,h⟩=>h.elim (fun h=>h.2.elim) fun h=>h.2.elim) (Nat.le_refl _)).block _ hgd)
  have hbl:Below w0.heap.size w0 w:=(hk.world.below (fun k ⟨_,h⟩=>h.elim (fun h=>h.2.elim) fun h=>h.2.elim) (Nat.le_refl _))
  exact obE_run (wanted_none rfl) (by unfold execOp;simp only [];rw [e3];go_simp) rfl
 ·refine ⟨⟨fun τ=>stableE_det _,leans_not⟩,?_⟩
  intro a w O hk
  have e64:a.eval (.tmp 64)=.pointer (some ⟨h,6,none⟩):=hk.fact 5 _ 64 rfl rfl rfl rfl
  have x2:=hk.world.still hx2 (fun ⟨_,h⟩=>h.elim And.right And.right)
  have x3:=hk.world.still hx3 (fun ⟨_,h⟩=>h.elim And.right And.right)
  have hcc:∀ j,w.cell? ⟨ga,j,none⟩=w0.cell? ⟨ga,j,none⟩:=fun j=>cell_same ((hk.world.below (fun k ⟨_,h⟩=>h.elim (fun h=>h.2.elim) fun h=>h.2.elim) (Nat.le_refl _)).block _ hga)
  have hcd:∀ j,w.cell? ⟨gd,j,none⟩=w0.cell? ⟨gd,j,none⟩:=fun j=>cell_same ((hk.world.below (fun k ⟨_,h⟩=>h.elim (fun h=>h.2.elim) fun h=>h.2.elim) (Nat.le_refl _)).block _ hgd)
  have hbl:Below w0.heap.size w0 w:=(hk.world.below (fun k ⟨_,h⟩=>h.elim (fun h=>h.2.elim) fun h=>h.2.elim) (Nat.le_refl _))
  obtain ⟨p0,p1,p2,p3,p4,p5,p6,p7⟩:=row8 x3
  rw [hqB,hm2] at p6
  exact obE_run (wanted_none rfl) (by unfold execOp;simp only [];rw [e64];go_simp) rfl
 ·refine ⟨⟨fun τ=>stableE_det _,leans_not⟩,?_⟩
  intro a w O hk
  have e5:a.eval (.tmp 5)=.int .i64 i:=(hk.init 5 (initialB_of_nw nw5)).trans hi5
  exact toE (ob_move rfl e5 (wanted_none rfl) rfl)
 ·refine ⟨⟨fun τ=>stableE_det _,leans_not⟩,?_⟩
  intro a w O hk
  have e65:a.eval (.tmp 65)=.slice (some ⟨gd,od,none⟩) m1 q.d:=hk.fact 6 _ 65 rfl rfl rfl rfl
  have e66:a.eval (.tmp 66)=.int .i64 i:=hk.fact 7 _ 66 rfl rfl rfl rfl
  have x2:=hk.world.still hx2 (fun ⟨_,h⟩=>h.elim And.right And.right)
  have x3:=hk.world.still hx3 (fun ⟨_,h⟩=>h.elim And.right And.right)
  have hcc:∀ j,w.cell? ⟨ga,j,none⟩=w0.cell? ⟨ga,j,none⟩:=fun j=>cell_same ((hk.world.below (fun k ⟨_,h⟩=>h.elim (fun h=>h.2.elim) fun h=>h.2.elim) (Nat.le_refl _)).block _ hga)
  have hcd:∀ j,w.cell? ⟨gd,j,none⟩=w0.cell? ⟨gd,j,none⟩:=fun j=>cell_same ((hk.world.below (fun k ⟨_,h⟩=>h.elim (fun h=>h.2.elim) fun h=>h.2.elim) (Nat.le_refl _)).block _ hgd)
  have hbl:Below w0.heap.size w0 w:=(hk.world.below (fun k ⟨_,h⟩=>h.elim (fun h=>h.2.elim) fun h=>h.2.elim) (Nat.le_refl _))
  exact obE_run (wanted_none rfl) (by unfold execOp;simp only [];rw [e65,e66];go_simp) rfl
 ·refine ⟨⟨fun τ=>stableE_det _,leans_not⟩,?_⟩
  intro a w O hk
  have e67:a.eval (.tmp 67)=.pointer (some ⟨gd,od+i * 3,none⟩):=hk.fact 8 _ 67 rfl rfl rfl rfl
  have x2:=hk.world.still hx2 (fun ⟨_,h⟩=>h.elim And.right And.right)
  have x3:=hk.world.still hx3 (fun ⟨_,h⟩=>h.elim And.right And.right)
  have hcc:∀ j,w.cell? ⟨ga,j,none⟩=w0.cell? ⟨ga,j,none⟩:=fun j=>cell_same ((hk.world.below (fun k ⟨_,h⟩=>h.elim (fun h=>h.2.elim) fun h=>h.2.elim) (Nat.le_refl _)).block _ hga)
  have hcd:∀ j,w.cell? ⟨gd,j,none⟩=w0.cell? ⟨gd,j,none⟩:=fun j=>cell_same ((hk.world.below (fun k ⟨_,h⟩=>h.elim (fun h=>h.2.elim) fun h=>h.2.elim) (Nat.le_refl _)).block _ hgd)
  have hbl:Below w0.heap.size w0 w:=(hk.world.below (fun k ⟨_,h⟩=>h.elim (fun h=>h.2.elim) fun h=>h.2.elim) (Nat.le_refl _))
  have r0:=(hcd _).trans cb0
  have r1:=(hcd _).trans cb1
  have r2:=(hcd _).trans cb2
  exact obE_run (wanted_none rfl) (by unfold execOp;simp only [];rw [e67];go_simp) rfl
 ·refine ⟨⟨fun τ=>stableE_det _,leans_not⟩,?_⟩
  intro a w O hk
  have e63:a.eval (.tmp 63)=.agg #[.int .i64 xk,.int .i64 xn,.slice A1 n1 c1]:=hk.fact 4 _ 63 rfl rfl rfl rfl
  have e68:a.eval (.tmp 68)=.agg #[.int .i64 yk,.int .i64 yn,.slice A2 n2 c2]:=hk.fact 9 _ 68 rfl rfl rfl rfl
  have x2:=hk.world.still hx2 (fun ⟨_,h⟩=>h.elim And.right And.right)
  have x3:=hk.world.still hx3 (fun ⟨_,h⟩=>h.elim And.right And.right)
  have hcc:∀ j,w.cell? ⟨ga,j,none⟩=w0.cell? ⟨ga,j,none⟩:=fun j=>cell_same ((hk.world.below (fun k ⟨_,h⟩=>h.elim (fun h=>h.2.elim) fun h=>h.2.elim) (Nat.le_refl _)).block _ hga)
  have hcd:∀ j,w.cell? ⟨gd,j,none⟩=w0.cell? ⟨gd,j,none⟩:=fun j=>cell_same ((hk.world.below (fun k ⟨_,h⟩=>h.elim (fun h=>h.2.elim) fun h=>h.2.elim) (Nat.le_refl _)).block _ hgd)
  have hbl:Below w0.heap.size w0 w:=(hk.world.below (fun k ⟨_,h⟩=>h.elim (fun h=>h.2.elim) fun h=>h.2.elim) (Nat.le_refl _))
  exact obE_callV #[.agg #[.int .i64 xk,.int .i64 xn,.slice A1 n1 c1],.agg #[.int .i64 yk,.int .i64 yn,.slice A2 n2 c2]] rfl rfl rfl rfl (by simp only [List.map_cons,List.map_nil];rw [e63,e68]) (wanted_none rfl) (hEQ w hbl)
 ·refine ⟨⟨fun τ=>stableE_det _,leans_not⟩,?_⟩
  intro a w O hk
  have e69:a.eval (.tmp 69)=.bool r:=hk.fact 10 _ 69 rfl rfl rfl rfl
  have x2:=hk.world.still hx2 (fun ⟨_,h⟩=>h.elim And.right And.right)
  have x3:=hk.world.still hx3 (fun ⟨_,h⟩=>h.elim And.right And.right)
  have hcc:∀ j,w.cell? ⟨ga,j,none⟩=w0.cell? ⟨ga,j,none⟩:=fun j=>cell_same ((hk.world.below (fun k ⟨_,h⟩=>h.elim (fun h=>h.2.elim) fun h=>h.2.elim) (Nat.le_refl _)).block _ hga)
  have hcd:∀ j,w.cell? ⟨gd,j,none⟩=w0.cell? ⟨gd,j,none⟩:=fun j=>cell_same ((hk.world.below (fun k ⟨_,h⟩=>h.elim (fun h=>h.2.elim) fun h=>h.2.elim) (Nat.le_refl _)).block _ hgd)
  have hbl:Below w0.heap.size w0 w:=(hk.world.below (fun k ⟨_,h⟩=>h.elim (fun h=>h.2.elim) fun h=>h.2.elim) (Nat.le_refl _))
  exact obE_run (wanted_none rfl) (by unfold execOp;simp only [];rw [e69];go_simp) rfl
set_option maxRecDepth 100000 in
set_option maxHeartbeats 8000000 in
theorem nrl_region {Q:Exit→Act→World→Prop} {id:Nat} (w0:World) (g h i:Nat) (p q:Pl) (t u:Tm) (ga oa gd od m1:Nat) (xk xn yk yn:Int) (A1 A2:Option Addr) (n1 c1 n2 c2:Nat) (r:Bool) {s0 s1 s4 s6 s7 s8 s9 s10 s11 s12 s13 s14 s15 s16 s17 s18 s19 s20 s21 s22 s23 s24 s25 s26 s27 s28 s29 s30 s31 s32 s33 s34 s35 s36 s37 s38 s39 s40 s41 s42 s43 s44 s45 s46 s47 s48 s49 s50 s51 s52 s53 s54 s55 s56 s57 s58 s59 s60 s61 s62 s63 s64 s65 s66 s67 s68 s69 s70 s71 s72 s73 s74 s75 s76 s77 s78 s79 s80 s81 s82 s83 s84 s85 s86 s87 s88 s89 s90:Value} (hx2:w0.heap[g]?=some (tmO p t)) (hx3:w0.heap[h]?=some (tmO q u)) (hpB:p.B=some ⟨ga,oa,none⟩) (hqB:q.B=some ⟨gd,od,none⟩) (hm1:t.ls.length=m1) (hm2:u.ls.length=m1) (hga:ga<w0.heap.size) (hgd:gd<w0.heap.size) (him:i<m1) (hm9:m1≤9223372036854775807) (ca0:w0.cell? ⟨ga,oa+i * 3,none⟩=some (.int .i64 xk)) (ca1:w0.cell? ⟨ga,oa+i * 3+1,none⟩=some (.int .i64 xn)) (ca2:w0.cell? ⟨ga,oa+i * 3+2,none⟩=some (.slice A1 n1 c1)) (cb0:w0.cell? ⟨gd,od+i * 3,none⟩=some (.int .i64 yk)) (cb1:w0.cell? ⟨gd,od+i * 3+1,none⟩=some (.int .i64 yn)) (cb2:w0.cell? ⟨gd,od+i * 3+2,none⟩=some (.slice A2 n2 c2)) (hEQ:∀ w,Below w0.heap.size w0 w→Calls Try.prog 29 #[.agg #[.int .i64 xk,.int .i64 xn,.slice A1 n1 c1],.agg #[.int .i64 yk,.int .i64 yn,.slice A2 n2 c2]] w fun e w'=>e=.returned (.bool r)∧Below w.heap.size w w')
  (hend:∀ (w':World),Chg (fun k=>False∨False) w0 w'→Q .normal { tmps:=(s0 :: s1 :: (.pointer (some ⟨g,0,none⟩)) :: (.pointer (some ⟨h,0,none⟩)) :: s4 :: (.int .i64 i) :: s6 :: s7 :: s8 :: s9 :: s10 :: s11 :: s12 :: s13 :: s14 :: s15 :: s16 :: s17 :: s18 :: s19 :: s20 :: s21 :: s22 :: s23 :: s24 :: s25 :: s26 :: s27 :: s28 :: s29 :: s30 :: s31 :: s32 :: s33 :: s34 :: s35 :: s36 :: s37 :: s38 :: s39 :: s40 :: s41 :: s42 :: s43 :: s44 :: s45 :: s46 :: s47 :: s48 :: s49 :: s50 :: s51 :: s52 :: s53 :: s54 :: s55 :: s56 :: s57 :: s58 :: (.pointer (some ⟨g,6,none⟩)) :: (.slice (some ⟨ga,oa,none⟩) m1 p.d) :: (.int .i64 i) :: (.pointer (some ⟨ga,oa+i * 3,none⟩)) :: (.agg #[.int .i64 xk,.int .i64 xn,.slice A1 n1 c1]) :: (.pointer (some ⟨h,6,none⟩)) :: (.slice (some ⟨gd,od,none⟩) m1 q.d) :: (.int .i64 i) :: (.pointer (some ⟨gd,od+i * 3,none⟩)) :: (.agg #[.int .i64 yk,.int .i64 yn,.slice A2 n2 c2]) :: (.bool r) :: (.bool (!r)) :: s71 :: s72 :: s73 :: s74 :: s75 :: s76 :: s77 :: s78 :: s79 :: s80 :: s81 :: s82 :: s83 :: s84 :: s85 :: s86 :: s87 :: s88 :: s89 :: s90 :: []:List Value).toArray,defers:=[] } w') :
  (Code.region id nrl_ops.toArray true).wp Try.prog Q { tmps:=(s0 :: s1 :: (.pointer (some ⟨g,0,none⟩)) :: (.pointer (some ⟨h,0,none⟩)) :: s4 :: (.int .i64 i) :: s6 :: s7 :: s8 :: s9 :: s10 :: s11 :: s12 :: s13 :: s14 :: s15 :: s16 :: s17 :: s18 :: s19 :: s20 :: s21 :: s22 :: s23 :: s24 :: s25 :: s26 :: s27 :: s28 :: s29 :: s30 :: s31 :: s32 :: s33 :: s34 :: s35 :: s36 :: s37 :: s38 :: s39 :: s40 :: s41 :: s42 :: s43 :: s44 :: s45 :: s46 :: s47 :: s48 :: s49 :: s50 :: s51 :: s52 :: s53 :: s54 :: s55 :: s56 :: s57 :: s58 :: s59 :: s60 :: s61 :: s62 :: s63 :: s64 :: s65 :: s66 :: s67 :: s68 :: s69 :: s70 :: s71 :: s72 :: s73 :: s74 :: s75 :: s76 :: s77 :: s78 :: s79 :: s80 :: s81 :: s82 :: s83 :: s84 :: s85 :: s86 :: s87 :: s88 :: s89 :: s90 :: []:List Value).toArray,defers:=[] } w0:=by
 refine wp_region_est (by kernel_rfl) (est2 0 0 (fun _=>False) (fun _=>False)) nrl_C (nrl_F w0 g h i p q t u ga oa gd od m1 xk xn yk yn A1 A2 n1 c1 n2 c2 r) (est2_dis (fun _ h _=>h)) (est2_range (fun _ h=>h.elim) (fun _ h=>h.elim)) (by rfl) (by kernel_rfl) (nrl_obs w0.drew g h i p q t u ga oa gd od m1 xk xn yk yn A1 A2 n1 c1 n2 c2 r hx2 hx3 hpB hqB hm1 hm2 hga hgd him hm9 ca0 ca1 ca2 cb0 cb1 cb2 (fun w h=>hEQ w (below_undrew h)) _ _ rfl rfl rfl) ?_
 intro a w' O hd hs hb hf hf2 ha hsame
 have hl:=slots_eq (ops:=nrl_ops.toArray) [(59,.pointer (some ⟨g,6,none⟩)),(60,.slice (some ⟨ga,oa,none⟩) m1 p.d),(61,.int .i64 i),(62,.pointer (some ⟨ga,oa+i * 3,none⟩)),(63,.agg #[.int .i64 xk,.int .i64 xn,.slice A1 n1 c1]),(64,.pointer (some ⟨h,6,none⟩)),(65,.slice (some ⟨gd,od,none⟩) m1 q.d),(66,.int .i64 i),(67,.pointer (some ⟨gd,od+i * 3,none⟩)),(68,.agg #[.int .i64 yk,.int .i64 yn,.slice A2 n2 c2]),(69,.bool r),(70,.bool (!r))] (show a.tmps.size=91 from hs) (fun i h=>hsame i h) ⟨(hf 0 _ 59 rfl rfl (by decide)).1,(hf 1 _ 60 rfl rfl (by decide)).1,(hf 2 _ 61 rfl rfl (by decide)).1,(hf 3 _ 62 rfl rfl (by decide)).1,(hf 4 _ 63 rfl rfl (by decide)).1,(hf 5 _ 64 rfl rfl (by decide)).1,(hf 6 _ 65 rfl rfl (by decide)).1,(hf 7 _ 66 rfl rfl (by decide)).1,(hf 8 _ 67 rfl rfl (by decide)).1,(hf 9 _ 68 rfl rfl (by decide)).1,(hf 10 _ 69 rfl rfl (by decide)).1,(hf 11 _ 70 rfl rfl (by decide)).1,trivial⟩ (by kernel_rfl)
 obtain ⟨tmps,defers⟩:=a
 obtain rfl:defers=[]:=hd
 have hl':tmps=_:=hl
 rw [hl']
 have hb':=est2_chg hb
 refine Eq.mp ?_ (hend w' ⟨hb'.os,hb'.tape,hb'.output,hb'.size,hb'.block⟩)
 kernel_rfl

end Go.Proofs.Ytdboloabpjmgaaa

namespace Go.Proofs.Ytdboloabpjmgaaa
open Go.RowKit Go.Proofs.YtdboloabpjmgaaaW.PrintWords Go.RegionInvYtdboloabpjmgaaa Go.RegionEYtdboloabpjmgaaa

def lvsSl:List Lv→List Lv→Bool
 | [],[]=>true
 | x :: r,y :: s=>slB x y && lvsSl r s
 | _,_=>false
def hnB (a b:Tm):Bool:=decide (a.kind=b.kind) && (leafR a == leafR b) && (leafR a || (if a.kind=1 then decide (a.num=b.num) else if a.kind=2 then slB a.lv b.lv else if a.kind=7 then (a.name.toList == b.name.toList) && lvsSl a.ls b.ls else true))
def nearT (a b:Tm):Bool:=hnB a b && (List.finRange (nK a)).all fun i=>nearT (kidF a i) (b.kids.getD i.1 default)
termination_by SizeOf.sizeOf a
decreasing_by exact kidF_lt a i
def alikeT (a b:Tm):Bool:=if okT a∧okT b then nearT a b else decide (okT a) == decide (okT b)
inductive CmpOk:Tm→Tm→Prop
 | mk {t u:Tm} (hl:t.kind=2→OKL t.lv u.lv) (hs:t.kind=7→∀ (i:Nat) (x y:Lv),t.ls[i]?=some x→u.ls[i]?=some y→OKL x y) (hk:∀ i:Fin (nK t),CmpOk (kidF t i) (u.kids.getD i.1 default)):CmpOk t u
theorem CmpOk.lv {t u:Tm} (h:CmpOk t u):t.kind=2→OKL t.lv u.lv:=by cases h;assumption
theorem CmpOk.ls {t u:Tm} (h:CmpOk t u):t.kind=7→∀ (i:Nat) (x y:Lv),t.ls[i]?=some x→u.ls[i]?=some y→OKL x y:=by cases h;assumption
theorem CmpOk.kid {t u:Tm} (h:CmpOk t u):∀ i:Fin (nK t),CmpOk (kidF t i) (u.kids.getD i.1 default):=by cases h;assumption
theorem near_eq (a b:Tm):nearT a b=(hnB a b && (List.finRange (nK a)).all fun i=>nearT (kidF a i) (b.kids.getD i.1 default)):=by rw [nearT]
theorem near_leaf {a b:Tm} (h:leafT a=true):nearT a b=hnB a b:=by
 rw [near_eq,fin_none (leaf_nK h)]
 simp
theorem hn_node {a b:Tm} (ha:leafT a=false) (hb:leafT b=false) (hk:a.kind=b.kind):hnB a b=true:=by
 unfold hnB
 obtain ⟨k1,k2,k7⟩:=kind_node ha
 rw [leafR_node ha,leafR_node hb,if_neg k1,if_neg k2,if_neg k7,decide_eq_true hk]
 rfl
theorem lvsSl_len:∀ {xs ys:List Lv},xs.length≠ys.length→lvsSl xs ys=false
 | [],[],h=>absurd rfl h
 | [],_ :: _,_=>rfl
 | _ :: _,[],_=>rfl
 | x :: r,y :: s,h=>by
  show (slB x y && lvsSl r s)=false
  rw [lvsSl_len (xs:=r) (ys:=s) (by simpa using h),Bool.and_false]
theorem lvsSl_cons (x y:Lv) (r s:List Lv):lvsSl (x :: r) (y :: s)=(slB x y && lvsSl r s):=rfl
theorem nm_kind {t u:Tm} (h:t.kind≠u.kind):nearT t u=false:=by rw [near_eq];unfold hnB;rw [decide_eq_false h];rfl
theorem nm_var {t u:Tm} (hk:t.kind=u.kind) (k:t.kind=1):nearT t u=(t.num == u.num):=by
 obtain ⟨h1,h2⟩:=kind_leaf (t:=t) (.inl k)
 obtain ⟨-,h3⟩:=kind_leaf (t:=u) (.inl (by rw [← hk];exact k))
 rw [near_leaf (leafT_of h1)]
 unfold hnB
 rw [decide_eq_true hk,h2,h3,if_pos k]
 rfl
theorem nm_sort {t u:Tm} (hk:t.kind=u.kind) (k:t.kind=2):nearT t u=slB t.lv u.lv:=by
 obtain ⟨h1,h2⟩:=kind_leaf (t:=t) (.inr (.inl k))
 obtain ⟨-,h3⟩:=kind_leaf (t:=u) (.inr (.inl (by rw [← hk];exact k)))
 rw [near_leaf (leafT_of h1)]
 unfold hnB
 rw [decide_eq_true hk,h2,h3,if_neg (by omega),if_pos k]
 rfl
theorem nm_const {t u:Tm} (hk:t.kind=u.kind) (k:t.kind=7):nearT t u=((t.name.toList == u.name.toList) && lvsSl t.ls u.ls):=by
 obtain ⟨h1,h2⟩:=kind_leaf (t:=t) (.inr (.inr k))
 obtain ⟨-,h3⟩:=kind_leaf (t:=u) (.inr (.inr (by rw [← hk];exact k)))
 rw [near_leaf (leafT_of h1)]
 unfold hnB
 rw [decide_eq_true hk,h2,h3,if_neg (by omega),if_neg (by omega),if_pos k]
 simp
def alln (t u:Tm) (xs:List (Fin (nK t))):Bool:=xs.all fun i=>nearT (kidF t i) (u.kids.getD i.1 default)
theorem nm_node {t u:Tm} (hk:t.kind=u.kind) (ht:leafT t=false) (hu:leafT u=false):nearT t u=alln t u (List.finRange (nK t)):=by
 rw [near_eq,hn_node ht hu hk,Bool.true_and];rfl
theorem alln_cons (t u:Tm) (i:Fin (nK t)) (r:List (Fin (nK t))):alln t u (i :: r)=(nearT (kidF t i) (u.kids.getD i.1 default) && alln t u r):=rfl
theorem nm_leafR {t u:Tm} (h:leafR t≠leafR u):nearT t u=false:=by
 rw [near_eq]
 unfold hnB
 have:(leafR t == leafR u)=false:=by simpa using h
 rw [this]
 simp
theorem nm_leafRs {t u:Tm} (hk:t.kind=u.kind) (h:leafR t=true) (h2:leafR u=true):nearT t u=true:=by
 rw [near_leaf (leafT_of (nK_leaf h))]
 unfold hnB
 rw [decide_eq_true hk,h,h2]
 rfl
theorem leafR_nn {t:Tm} (h:leafR t=false) (h1:t.kind≠1) (h2:t.kind≠2) (h7:t.kind≠7):leafT t=false:=by
 cases hl:leafT t with
 | false=>rfl
 | true=>rw [leafR_leaf hl h1 h2 h7] at h;cases h
set_option maxRecDepth 100000 in
set_option maxHeartbeats 4000000 in
theorem near_calls (N:Nat):∀ (t:Tm),SizeOf.sizeOf t<N→∀ (u:Tm) (p q:Pl) (w:World),CmpOk t u→TmIn w w.heap.size p t→TmIn w w.heap.size q u →
  Calls Try.prog 68 #[tmV p t,tmV q u] w fun e w'=>e=.returned (.bool (nearT t u))∧Below w.heap.size w w':=by
 induction N with
 | zero=>intro t h;omega
 | succ N ih =>
  intro t hN u p q w hco hin hin2
  have HCO:=Ak hco
  clear hco
  have IH:=Ak ih
  have HNN:=Ak hN
  have HIN:=Ak hin
  have HIN2:=Ak hin2
  have hlt:=hin.len
  have hlu:=hin2.len
  have hlt9:t.kids.length≤9223372036854775807:=by omega
  have hlu9:u.kids.length≤9223372036854775807:=by omega
  have hfl:=hin.ls.len
  have hfu:=hin2.ls.len
  simp only [Lv.kids] at hfl hfu
  obtain ⟨W,hW⟩:∃ W,W=(w.alloc (tmO p t)).alloc (tmO q u):=⟨_,rfl⟩
  have hb:Below w.heap.size w W:=by rw [hW];exact below_alloc (below_alloc (Below.refl _ _) _) _
  have HX:=Ak (show W.heap[w.heap.size]?=some (tmO p t) by rw [hW];exact box0 w _ _)
  have HY:=Ak (show W.heap[w.heap.size+1]?=some (tmO q u) by rw [hW];exact box1 w _ _)
  have HB:=Ak hb
  clear ih hN hin hin2 hb
  unfold tmV
  unfold tmO at hW
  go_enter Try.func68,Try.ntmps68
  go_upto_region 1 with (fail)
  rw [← hW]
  clear hW
  by_cases hkk:t.kind=u.kind
  ·obtain ⟨la,hla⟩:∃ x,leafR t=x:=⟨_,rfl⟩
   obtain ⟨lb,hlb⟩:∃ x,leafR u=x:=⟨_,rfl⟩
   by_cases hll:la=lb
   ·refine nry_region W w.heap.size (w.heap.size+1) p q t u la lb false HX.out HY.out hkk hla hlb (by simp [hll]) hlt9 hlu9 ?_
    intro w1 hch
    have hb1:Below W.heap.size W w1:=hch.below (fun _ h=>h.elim False.elim False.elim) (Nat.le_refl _)
    have HB1:=Ak (below_then HB.out HB.out.size hb1)
    have HX1:=Ak ((hb1.block _ (blk_lt HX.out)).trans HX.out)
    have HY1:=Ak ((hb1.block _ (blk_lt HY.out)).trans HY.out)
    have HKK:=Ak hkk
    have HLA:=Ak hla
    have HLB:=Ak hlb
    clear hch hb1 hkk hla hlb HX HY
    subst hll
    obtain ⟨p0,p1,p2,p3,p4,p5,p6,p7⟩:=row8 HX1.out
    obtain ⟨q0,q1,q2,q3,q4,q5,q6,q7⟩:=row8 HY1.out
    clear p0 p1 p2 p3 p4 p5 p6 p7 q0 q1 q2 q3 q4 q5 q6 q7
    cases la with
    | true =>
     have HE:=Ak (nm_leafRs HKK.out HLA.out HLB.out)
     go_wp2_with (first
      | (refine wpList_load_row rfl 28 _ rfl (w.heap.size) rfl 28 _ (0,0) _ HX1.out Try.underlying28 rfl (by kernel_rfl) ?_)
      | (go_at_call 77;go_must (refine (refleaf_calls t p w1 hlt9).mono ?_;rintro e w2 ⟨rfl,hb⟩;rw [HLA.out];have HB2:=Ak (below_then HB1.out HB1.out.size hb);have HX2:=Ak ((hb.block _ (blk_lt HX1.out)).trans HX1.out);have HY2:=Ak ((hb.block _ (blk_lt HY1.out)).trans HY1.out);obtain ⟨p0,p1,p2,p3,p4,p5,p6,p7⟩:=row8 HX2.out;obtain ⟨q0,q1,q2,q3,q4,q5,q6,q7⟩:=row8 HY2.out;clear hb)))
     go_ret
     rw [HE.out]
     exact ⟨rfl,HB2.out⟩
    | false =>
     go_upto_region 5 with (first
      | (refine wpList_load_row rfl 28 _ rfl (w.heap.size) rfl 28 _ (0,0) _ HX1.out Try.underlying28 rfl (by kernel_rfl) ?_)
      | (go_at_call 77;go_must (refine (refleaf_calls t p w1 hlt9).mono ?_;rintro e w2 ⟨rfl,hb⟩;rw [HLA.out];have HB2:=Ak (below_then HB1.out HB1.out.size hb);have HX2:=Ak ((hb.block _ (blk_lt HX1.out)).trans HX1.out);have HY2:=Ak ((hb.block _ (blk_lt HY1.out)).trans HY1.out);obtain ⟨p0,p1,p2,p3,p4,p5,p6,p7⟩:=row8 HX2.out;obtain ⟨q0,q1,q2,q3,q4,q5,q6,q7⟩:=row8 HY2.out;clear hb)))
     by_cases k1:t.kind=1
     ·have b1:(t.kind == 1)=true:=by simp [k1]
      have HE:=Ak (nm_var HKK.out k1)
      clear k1
      go_wp2
      go_ret
      rw [HE.out]
      exact ⟨rfl,HB2.out⟩
     ·have b1:(t.kind == 1)=false:=by simp [k1]
      by_cases k2:t.kind=2
      ·have b2:(t.kind == 2)=true:=by simp [k2]
       have HE:=Ak (nm_sort HKK.out k2)
       have HK2:=Ak k2
       clear k1 k2
       go_wp2_with (go_at_call 29;go_must (refine (slevel_at p.A q.A p.c q.c _ _ _ _ _ _ t.lv u.lv w2 rfl rfl rfl rfl rfl rfl (HCO.out.lv HK2.out) (below_all HIN.out HB2.out).lv.all (below_all HIN2.out HB2.out).lv.all).mono ?_;rintro e w3 ⟨rfl,hb⟩;have HB3:=Ak (below_then HB2.out HB2.out.size hb);clear hb))
       go_ret
       rw [HE.out]
       exact ⟨rfl,HB3.out⟩
      ·have b2:(t.kind == 2)=false:=by simp [k2]
       by_cases k7:t.kind=7
       ·have b7:(t.kind == 7)=true:=by simp [k7]
        have HE:=Ak (nm_const HKK.out k7)
        have HK7:=Ak k7
        clear k1 k2 k7
        by_cases hn:t.name.toList=u.name.toList
        case neg =>
         have HE2:=Ak (show nearT t u=false by rw [HE.out,show (t.name.toList == u.name.toList)=false by simpa using hn,Bool.false_and])
         go_wp2
         go_ret
         rw [HE2.out]
         exact ⟨rfl,HB2.out⟩
        case pos =>
         have HE2:=Ak (show nearT t u=lvsSl t.ls u.ls by rw [HE.out,show (t.name.toList == u.name.toList)=true by simpa using hn,Bool.true_and])
         obtain ⟨M,hM1⟩:∃ M,t.ls.length=M:=⟨_,rfl⟩
         obtain ⟨M2,hM2⟩:∃ M,u.ls.length=M:=⟨_,rfl⟩
         have HM1:=Ak hM1
         rw [hM1] at p6 hfl
         rw [hM2] at q6 hfu
         clear hM1
         by_cases hmm:M=M2
         ·subst hmm
          have HM2:=Ak hM2
          have bm:((M:Int) != (M:Int))=false:=by simp
          clear hM2
          go_wp2
          clear hn p0 p1 p2 p3 p4 p5 p6 p7 q0 q1 q2 q3 q4 q5 q6 q7
          go_loopw [56] (fun i wr=>∃ k:Nat,i=.int .i64 k∧k≤M∧Aside0 (lvsSl (t.ls.drop k) (u.ls.drop k)=lvsSl t.ls u.ls)∧Aside0 (Below w2.heap.size w2 wr)) (fun i _=>M - (intOf i).toNat)
          case atStart=>exact ⟨0,rfl,Nat.zero_le _,⟨rfl⟩,⟨Below.refl _ _⟩⟩
          case round =>
           obtain ⟨k,rfl,hk,HK,HBR⟩:=hrel
           by_cases hlk:k<M
           ·obtain ⟨x,hx⟩:∃ x,t.ls[k]?=some x:=⟨_,List.getElem?_eq_getElem (by rw [HM1.out];exact hlk)⟩
            obtain ⟨y,hy⟩:∃ y,u.ls[k]?=some y:=⟨_,List.getElem?_eq_getElem (by rw [HM2.out];exact hlk)⟩
            have HBA:=Ak (below_then HB2.out HB2.out.size HBR.out)
            obtain ⟨A',c',hcs,hin⟩:=(TmIn.stay HIN.out HBA.out).ls.kid k x hx
            obtain ⟨B',d',hct,hin2⟩:=(TmIn.stay HIN2.out HBA.out).ls.kid k y hy
            obtain ⟨⟨ga,oa,sa⟩,hpB,hga,rfl,d1,d2,d3⟩:=hcs
            obtain ⟨⟨gd,od,sd⟩,hqB,hgd,rfl,f1,f2,f3⟩:=hct
            rw [add_flat] at d1 d2 d3 f1 f2 f3
            have HDX:=Ak (drop_lv hx)
            have HDY:=Ak (drop_lv hy)
            have HXI:=Ak hin.all
            have HYI:=Ak hin2.all
            have HOK:=Ak (HCO.out.ls HK7.out k x y hx hy)
            obtain ⟨r,hr⟩:∃ r,slB x y=r:=⟨_,rfl⟩
            have HR:=Ak hr
            have HXR:=Ak ((HBR.out.block _ (blk_lt HX2.out)).trans HX2.out)
            have HYR:=Ak ((HBR.out.block _ (blk_lt HY2.out)).trans HY2.out)
            have hzr:=HBA.out.size
            have hga:ga<w.heap.size:=hga
            have hgd:gd<w.heap.size:=hgd
            go_upto_region 16 with (fail)
            refine nrl_region wr w.heap.size (w.heap.size+1) k p q t u ga oa gd od M x.kind x.num y.kind y.num A' B' x.kids.length c' y.kids.length d' r HXR.out HYR.out hpB hqB HM1.out HM2.out (by omega) (by omega) hlk (by omega)
             d1 d2 d3 f1 f2 f3 (fun w9 hb9=>by rw [← hr];exact slevel_at A' B' c' d' _ _ _ _ _ _ x y w9 rfl rfl rfl rfl rfl rfl HOK.out (LvIn.stay HXI.out hb9).all (LvIn.stay HYI.out hb9).all) ?_
            intro w5 hch
            have HB5:=Ak (below_then HBR.out HBR.out.size (hch.below (fun _ h=>h.elim False.elim False.elim) (Nat.le_refl _)))
            clear hch d1 d2 d3 f1 f2 f3 hpB hqB hga hgd hin hin2 hx hy hr
            cases r with
            | true =>
             have HK2:=Ak (show lvsSl (t.ls.drop (k+1)) (u.ls.drop (k+1))=lvsSl t.ls u.ls by rw [← HK.out,HDX.out,HDY.out,lvsSl_cons,HR.out,Bool.true_and])
             go_wp2
             go_roundw
             case rel=>exact ⟨k+1,by go_num,by omega,HK2,HB5⟩
             case measure=>(simp [intOf];try omega)
            | false =>
             have HK2:=Ak (show nearT t u=false by rw [HE2.out,← HK.out,HDX.out,HDY.out,lvsSl_cons,HR.out,Bool.false_and])
             have HFN:=Ak (below_then HB2.out HB2.out.size HB5.out)
             go_wp2
             go_ret
             rw [HK2.out]
             exact ⟨rfl,HFN.out⟩
           ·obtain rfl:k=M:=by omega
            have hlt':decide ((k:Int)<k)=false:=by simp
            have HZ:=Ak (show nearT t u=true by rw [HE2.out,← HK.out,List.drop_of_length_le (by rw [HM1.out];exact Nat.le_refl _),List.drop_of_length_le (by rw [HM2.out];exact Nat.le_refl _)];rfl)
            have HFN:=Ak (below_then HB2.out HB2.out.size HBR.out)
            go_wp2
            go_ret
            rw [HZ.out]
            exact ⟨rfl,HFN.out⟩
         ·have bm:((M:Int) != (M2:Int))=true:=by simp;omega
          have HE3:=Ak (show nearT t u=false by rw [HE2.out];exact lvsSl_len (by rw [HM1.out,hM2];exact hmm))
          clear hmm hM2
          go_wp2
          go_ret
          rw [HE3.out]
          exact ⟨rfl,HB2.out⟩
       ·have b7:(t.kind == 7)=false:=by simp [k7]
        have HKN:=Ak (And.intro (leafR_nn HLA.out k1 k2 k7) (leafR_nn HLB.out (by rw [← HKK.out];exact k1) (by rw [← HKK.out];exact k2) (by rw [← HKK.out];exact k7)))
        clear k1 k2 k7
        have HE:=Ak (nm_node HKK.out HKN.out.1 HKN.out.2)
        have HLA:=Ak HKN.out.1
        have HLB:=Ak HKN.out.2
        obtain ⟨ar,har⟩:∃ x,nK t=x:=⟨_,rfl⟩
        have HAR:=Ak har
        have hnk:=nK_ar (leaf_nK' HKN.out.1)
        have HAC:=Ak (show ∀ w,Calls Try.prog 39 #[.int .i64 t.kind] w fun e w'=>e=.returned (.int .i64 (ar:Int))∧w'=w from fun w=>by rw [← har,hnk];exact refkids_calls _ _)
        have har3:ar≤3:=by rw [← har];exact nK_le3 t
        have hart:ar≤t.kids.length:=by rw [← har];exact nK_le t
        have haru:ar≤u.kids.length:=by rw [← har,nK_same HKK.out HKN.out.1 HKN.out.2];exact nK_le u
        clear har hnk p1 p2 p3 p4 p5 p6 p7 q0 q1 q2 q3 q4 q5 q6 q7
        go_wp2_with (go_at_call 39;go_must (refine (HAC.out _).mono ?_;rintro e w3 ⟨rfl,h3⟩;have h3:=h3.symm;subst h3))
        clear p0
        go_loopw [75] (fun i wr=>∃ k:Nat,i=.int .i64 k∧k≤ar∧Aside0 (alln t u ((List.finRange (nK t)).drop k)=nearT t u)∧Aside0 (Below w2.heap.size w2 wr)) (fun i _=>ar - (intOf i).toNat)
        case atStart=>exact ⟨0,rfl,Nat.zero_le _,⟨by rw [List.drop_zero];exact HE.out.symm⟩,⟨Below.refl _ _⟩⟩
        case round =>
         obtain ⟨k,rfl,hk,HK,HBR⟩:=hrel
         by_cases hlk:k<ar
         ·have hkn:k<nK t:=by rw [HAR.out];exact hlk
          have hkm:k<nK u:=by rw [← nK_same HKK.out HLA.out HLB.out];exact hkn
          have HDF:=Ak (drop_fin hkn)
          have HBA:=Ak (below_then HB2.out HB2.out.size HBR.out)
          obtain ⟨qq,hqq⟩:=(TmIn.stay HIN.out HBA.out).kid
          obtain ⟨qr,hqr⟩:=(TmIn.stay HIN2.out HBA.out).kid
          obtain ⟨⟨ga,oa,hpK,hga,hca⟩,hxin⟩:=hqq k _ (kidF_get t ⟨k,hkn⟩)
          obtain ⟨⟨gd,od,hqK,hgd,hcb⟩,hyin⟩:=hqr k _ (kidF_get u ⟨k,hkm⟩)
          have HGD:=Ak (show u.kids.getD k default=kidF u ⟨k,hkm⟩ by rw [List.getD_eq_getElem?_getD,kidF_get u ⟨k,hkm⟩];rfl)
          have HCK:=Ak (HCO.out.kid ⟨k,hkn⟩)
          have HAL:=Ak (alln_cons t u ⟨k,hkn⟩ ((List.finRange (nK t)).drop (k+1)))
          have HXL:=Ak (kidF_lt t ⟨k,hkn⟩)
          obtain ⟨x,hxe⟩:∃ x,kidF t ⟨k,hkn⟩=x:=⟨_,rfl⟩
          obtain ⟨y,hye⟩:∃ y,kidF u ⟨k,hkm⟩=y:=⟨_,rfl⟩
          rw [hxe] at hca hxin HAL HXL HCK
          rw [hye] at hcb hyin HGD
          rw [HGD.out] at HAL HCK
          have HXI:=Ak (TmS.all hxin)
          have HYI:=Ak (TmS.all hyin)
          have HXR:=Ak ((HBR.out.block _ (blk_lt HX2.out)).trans HX2.out)
          have HYR:=Ak ((HBR.out.block _ (blk_lt HY2.out)).trans HY2.out)
          obtain ⟨r,hr⟩:∃ r,nearT x y=r:=⟨_,rfl⟩
          have HR:=Ak hr
          have hzr:=HBA.out.size
          have ca:=fun (j:Nat) (v:Value) (h:(tmC (qq k) x)[j]?=some v)=>hca j v h
          have cb:=fun (j:Nat) (v:Value) (h:(tmC (qr k) y)[j]?=some v)=>hcb j v h
          go_upto_region 23 with (fail)
          refine nrk_region wr w.heap.size (w.heap.size+1) k p q t u ga oa gd od t.kids.length u.kids.length (qq k) (qr k) x y r HXR.out HYR.out hpK hqK rfl rfl (by omega) (by omega) (by omega) (by omega) hlt9 hlu9 (by omega)
           (ca 0 _ rfl) (ca 1 _ rfl) (ca 2 _ rfl) (ca 3 _ rfl) (ca 4 _ rfl) (ca 5 _ rfl) (ca 6 _ rfl) (ca 7 _ rfl) (cb 0 _ rfl) (cb 1 _ rfl) (cb 2 _ rfl) (cb 3 _ rfl) (cb 4 _ rfl) (cb 5 _ rfl) (cb 6 _ rfl) (cb 7 _ rfl)
           (fun w9 hb9=>by rw [← hr];exact IH.out x (by have:=HXL.out;have:=HNN.out;omega) y (qq k) (qr k) w9 HCK.out (below_all HXI.out hb9) (below_all HYI.out hb9)) ?_
          intro w5 hch
          have HB5:=Ak (below_then HBR.out HBR.out.size (hch.below (fun _ h=>h.elim False.elim False.elim) (Nat.le_refl _)))
          clear hch hca hcb hxin hyin hpK hqK hga hgd hqq hqr hxe hye ca cb hr
          cases r with
          | true =>
           have HK2:=Ak (show alln t u ((List.finRange (nK t)).drop (k+1))=nearT t u by rw [← HK.out,HDF.out,HAL.out,HR.out,Bool.true_and])
           go_wp2
           go_roundw
           case rel=>exact ⟨k+1,by go_num,by omega,HK2,HB5⟩
           case measure=>(simp [intOf];try omega)
          | false =>
           have HK2:=Ak (show nearT t u=false by rw [← HK.out,HDF.out,HAL.out,HR.out,Bool.false_and])
           have HFN:=Ak (below_then HB2.out HB2.out.size HB5.out)
           go_wp2
           go_ret
           rw [HK2.out]
           exact ⟨rfl,HFN.out⟩
         ·obtain rfl:k=ar:=by omega
          have hlt':decide ((k:Int)<k)=false:=by simp
          have HZ:=Ak (show nearT t u=true by rw [← HK.out,List.drop_of_length_le (by rw [List.length_finRange,HAR.out];exact Nat.le_refl _)];rfl)
          have HFN:=Ak (below_then HB2.out HB2.out.size HBR.out)
          go_wp2
          go_ret
          rw [HZ.out]
          exact ⟨rfl,HFN.out⟩
   ·refine nry_region W w.heap.size (w.heap.size+1) p q t u la lb true HX.out HY.out hkk hla hlb (by simp [hll]) hlt9 hlu9 ?_
    intro w1 hch
    have hb1:Below W.heap.size W w1:=hch.below (fun _ h=>h.elim False.elim False.elim) (Nat.le_refl _)
    have HB1:=Ak (below_then HB.out HB.out.size hb1)
    have HX1:=Ak ((hb1.block _ (blk_lt HX.out)).trans HX.out)
    have HY1:=Ak ((hb1.block _ (blk_lt HY.out)).trans HY.out)
    have HKK:=Ak hkk
    have HLA:=Ak hla
    have HLB:=Ak hlb
    clear hch hb1 hkk hla hlb HX HY
    have HE:=Ak (nm_leafR (t:=t) (u:=u) (by rw [HLA.out,HLB.out];exact hll))
    clear hll
    go_wp2
    go_ret
    rw [HE.out]
    exact ⟨rfl,HB1.out⟩
  ·refine nrn_region W w.heap.size (w.heap.size+1) p q t u HX.out HY.out hkk ?_
   intro w1 hch
   have HB1:=Ak (below_then HB.out HB.out.size (hch.below (fun _ h=>h.elim False.elim False.elim) (Nat.le_refl _)))
   have HE:=Ak (nm_kind hkk)
   clear hch hkk
   go_wp2
   go_ret
   rw [HE.out]
   exact ⟨rfl,HB1.out⟩
end Go.Proofs.Ytdboloabpjmgaaa

namespace Go.Proofs.Ytdboloabpjmgaaa
open Go.RowKit Go.Proofs.YtdboloabpjmgaaaW.PrintWords Go.RegionInvYtdboloabpjmgaaa

def StrAt (w:World) (g:Nat) (s:ByteArray):Prop:=w.heap[g]?=some (.cells #[.string s] 9 (0,0))
theorem StrAt.cell {w:World} {g:Nat} {s:ByteArray} (h:StrAt w g s):w.cell? ⟨g,0,none⟩=some (.string s):=by rw [cell_of_row _ _ _ _ _ _ h];rfl
end Go.Proofs.Ytdboloabpjmgaaa

namespace Go.Proofs.Ytdboloabpjmgaaa
open Go.RowKit Go.Proofs.YtdboloabpjmgaaaW.PrintWords Go.RegionInvYtdboloabpjmgaaa Go.RegionEYtdboloabpjmgaaa

def EnAt (w:World) (A:Option Addr) (xs:List (Tm × Int)):Prop:=∀ (i:Nat) (x:Tm × Int),xs[i]?=some x→∃ g o q,A=some ⟨g,o,none⟩∧g<w.heap.size∧TmIn w w.heap.size q x.1∧∀ (j:Nat) (v:Value),(enC q x)[j]?=some v→w.cell? ⟨g,o+i * 9+j,none⟩=some v
theorem EnAt.later {w w':World} {A:Option Addr} {xs:List (Tm × Int)} (h:EnAt w A xs) (hb:Below w.heap.size w w'):EnAt w' A xs:=fun i x hx=>by
 obtain ⟨g,o,q,hA,hg,hi,hc⟩:=h i x hx
 exact ⟨g,o,q,hA,Nat.lt_of_lt_of_le hg hb.size,(TmS.later hi hb).all,fun j v hv=>(cell_same (hb.block g hg)).trans (hc j v hv)⟩
theorem KidsE.at {w:World} {S:Nat→Prop} {lo:Nat} {V:Value} {xs:List (Tm × Int)} (h:KidsE w S lo V xs):∃ A c,V=.slice A xs.length c∧xs.length≤c∧c≤9223372036854775807∧EnAt w A xs:=by
 obtain ⟨cells,q,ho,hk⟩:=h
 obtain ⟨A,c,rfl⟩:=own_slice ho
 refine ⟨A,c,rfl,own_cap ho,own_max ho,fun i x hx=>?_⟩
 have hi:i<xs.length:=by
  rcases Nat.lt_or_ge i xs.length with h | h
  ·exact h
  ·rw [List.getElem?_eq_none h] at hx;cases hx
 obtain ⟨g,cap,hv,hb,hlt⟩:=ho.form (by omega)
 have hv':=hv
 injection hv with hA
 refine ⟨g,0,q i,hA,hlt,(hk i x hx).2.all,fun j v hjv=>?_⟩
 have:=ho.cells (g:=g) (by rw [hv'];rfl) _ _ ((hk i x hx).1 j v hjv)
 rwa [add_flat,← Nat.add_assoc] at this
end Go.Proofs.Ytdboloabpjmgaaa

namespace Go.Proofs.Ytdboloabpjmgaaa
open Go.RowKit Go.Proofs.YtdboloabpjmgaaaW.PrintWords Go.RegionInvYtdboloabpjmgaaa Go.RegionEYtdboloabpjmgaaa
set_option linter.unusedVariables false

set_option maxRecDepth 100000 in
set_option maxHeartbeats 4000000 in
theorem fitsG_calls (S:Nat→Prop) (g0:Nat) (hS:∀ k,S k→k<g0) (t:Tm) (p:Pl) (w:World) (hg0:g0≤w.heap.size) (hin:TmS w S p t) :
  Calls Try.prog 65 #[tmV p t] w (TmGot w S (fitT t)):=by
 by_cases hok:okT t
 ·rw [fitT_ok hok];exact fits_calls S g0 hS hok p w hg0 hin
 rw [fitT_no hok]
 obtain ⟨W,hW⟩:∃ W,W=(w.alloc (tmO p t)).alloc (outK 0 (.slice none 0 0)):=⟨_,rfl⟩
 have hb:Below w.heap.size w W:=by rw [hW];exact below_alloc (below_alloc (Below.refl _ _) _) _
 have HX:=Ak (show W.heap[w.heap.size]?=some (tmO p t) by rw [hW];exact box0 w _ _)
 have HX1:=Ak (show W.heap[w.heap.size+1]?=some (outK 0 (.slice none 0 0)) by rw [hW];exact box1 w _ _)
 have HZ:=Ak (show w.heap.size+1<W.heap.size by rw [hW];simp)
 have HB:=Ak hb
 have HIN:=Ak (TmS.stay hin hS (hb.mono hg0))
 have HSS:=Ak hS
 have HG:=Ak (show (!decide (okT t))=true by simp [hok])
 clear hin hb hS hok
 unfold tmV
 unfold tmO at hW
 go_enter Try.func65,Try.ntmps65
 go_upto_region 1 with (fail)
 rw [← hW]
 clear hW
 go_upto_region 2 with (first
  | (refine wpList_load_row rfl 28 _ rfl (w.heap.size) rfl 28 _ (0,0) _ HX.out Try.underlying28 rfl (by kernel_rfl) ?_)
  | (go_at_call 26;go_must (refine (tooGreat_calls t p W (TmS.mono HIN.out fun k h _=>Nat.lt_of_lt_of_le (HSS.out k h) (Nat.le_trans hg0 HB.out.size))).mono ?_;rintro e w1 ⟨rfl,hb⟩;rw [HG.out];have HX01:=Ak ((hb.block _ (blk_lt HX.out)).trans HX.out);have HX11:=Ak ((hb.block _ (blk_lt HX1.out)).trans HX1.out);have HB1:=Ak (below_then HB.out HB.out.size hb);have HZ1:=Ak (show w.heap.size+1+1≤w1.heap.size by have:=hb.size;have:=HZ.out;omega);have HIN1:=Ak (TmS.stay HIN.out HSS.out (hb.mono (Nat.le_trans hg0 HB.out.size)));clear hb)))
 clear HX HX1 HB HIN
 obtain ⟨r0,r1,r2,r3,r4,r5,r6,r7,f0,f1,f2,f3,f4,f5,f6,f7⟩:=row8c HX11.out
 go_wp2
 refine bodyPost_ret (results_c rfl _ _ (w.heap.size+1) 28 #[.int .i64 0,.int .i64 0,.string ⟨#[]⟩,.int .i64 0,.int .i64 0,.slice none 0 0,.slice none 0 0,.slice none 0 0] (0,0) _ rfl (set8 HX11.out) Try.underlying28 rfl (by kernel_rfl)) rfl ?_
 exact tm_retS (y:=zeroT) (q:=plz) (g:=w.heap.size+1) (m:=w.heap.size+1+1) (zeroT_flat _ _) (chg_set8 w1 (w.heap.size+1) (.int .i64 0) (.int .i64 0) (.string ⟨#[]⟩) (.int .i64 0) (.int .i64 0) (.slice none 0 0) (.slice none 0 0) (.slice none 0 0)) hg0 (by omega) (by omega) HB1.out HSS.out
end Go.Proofs.Ytdboloabpjmgaaa

namespace Go.Proofs.Ytdboloabpjmgaaa
open Go.RowKit Go.Proofs.YtdboloabpjmgaaaW.PrintWords Go.RegionInvYtdboloabpjmgaaa Go.RegionEYtdboloabpjmgaaa
set_option linter.unusedVariables false
def al2_ops:List Oper:=[
 { dst:=some 11,op:=Go.Op.load 28 (Go.Operand.tmp 2),type:=28,pos:= "law.go:56",after:=#[],guard:=none },
 { dst:=some 12,op:=Go.Op.call { callee:=Go.Callee.value (Go.Operand.func 26),args:=#[Go.Operand.tmp 11],argTypes:=#[28] },type:=4,pos:= "law.go:56",after:=#[{ on:=0,ground:=Go.Ground.data }],guard:=none },
 { dst:=some 13,op:=Go.Op.load 28 (Go.Operand.tmp 3),type:=28,pos:= "law.go:56",after:=#[],guard:=none },
 { dst:=some 14,op:=Go.Op.call { callee:=Go.Callee.value (Go.Operand.func 26),args:=#[Go.Operand.tmp 13],argTypes:=#[28] },type:=4,pos:= "law.go:56",after:=#[{ on:=2,ground:=Go.Ground.data },{ on:=1,ground:=Go.Ground.chain }],guard:=none },
 { dst:=some 15,op:=Go.Op.binOp Go.BinOp.eql 4 (Go.Operand.tmp 12) (Go.Operand.tmp 14) 4,type:=4,pos:= "law.go:56",after:=#[{ on:=1,ground:=Go.Ground.data },{ on:=3,ground:=Go.Ground.data }],guard:=none },
 { dst:=some 4,op:=Go.Op.assign (Go.Operand.tmp 15),type:=4,pos:= "law.go:56",after:=#[{ on:=4,ground:=Go.Ground.data },{ on:=3,ground:=Go.Ground.chain },{ on:=0,ground:=Go.Ground.phase },{ on:=1,ground:=Go.Ground.phase },{ on:=2,ground:=Go.Ground.phase },{ on:=3,ground:=Go.Ground.phase },{ on:=4,ground:=Go.Ground.phase }],guard:=none }]
def al2_F (w0:World) (B:Nat) (ga:Nat) (pa:Pl) (ta:Tm) (gb:Nat) (pb:Pl) (tb:Tm) (x y:Bool):Nat→(Nat→Value)→Value→World→(Nat→Prop)→Prop:=fun rix=>match rix with
 | 0=>fun _ v _ _=>v=tmV pa ta
 | 1=>fun _ v _ _=>v=.bool x
 | 2=>fun _ v _ _=>v=tmV pb tb
 | 3=>fun _ v _ _=>v=.bool y
 | 4=>fun _ v _ _=>v=.bool (x == y)
 | 5=>fun _ v _ _=>v=.bool (x == y)
 | _=>fun _ _ _ _=>True
def al2_C:Nat→List Nat:=fun rix=>match rix with
 | _=>[]
theorem al2_nw2:nwB al2_ops.toArray 2=true:=by kernel_rfl
theorem al2_nw3:nwB al2_ops.toArray 3=true:=by kernel_rfl
set_option maxRecDepth 100000 in
set_option maxHeartbeats 8000000 in
theorem al2_obs (w0:World) (B:Nat) (ga:Nat) (pa:Pl) (ta:Tm) (gb:Nat) (pb:Pl) (tb:Tm) (x y:Bool) (hB:B≤w0.heap.size) (hx2:w0.heap[ga]?=some (tmO pa ta)) (hin2:TmIn w0 B pa ta) (hx3:w0.heap[gb]?=some (tmO pb tb)) (hin3:TmIn w0 B pb tb) (h1:(!decide (okT ta))=x) (h2:(!decide (okT tb))=y) (Q:Exit→Act→World→Prop) (a0:Act) (hi2:a0.tmps.getD 2 undef=.pointer (some ⟨ga,0,none⟩)) (hi3:a0.tmps.getD 3 undef=.pointer (some ⟨gb,0,none⟩)) :
  ObsE Try.prog al2_ops.toArray Q (est2 0 0 (fun _=>False) (fun _=>False)) al2_C (al2_F w0 B ga pa ta gb pb tb x y) a0 w0 al2_ops.toArray.toList 0:=by
 have nw2:=al2_nw2
 have nw3:=al2_nw3
 refine ⟨?_,?_,?_,?_,?_,?_,trivial⟩
 ·refine ⟨⟨fun τ=>stableE_det _,leans_not⟩,?_⟩
  intro a w O hk
  have e2:a.eval (.tmp 2)=.pointer (some ⟨ga,0,none⟩):=(hk.init 2 (initialB_of_nw nw2)).trans hi2
  have x2:=hk.world.still hx2 (fun ⟨_,h⟩=>h.elim And.right And.right)
  have x3:=hk.world.still hx3 (fun ⟨_,h⟩=>h.elim And.right And.right)
  have hfx:∀ k,k<B→w.heap[k]?=w0.heap[k]?:=fun k hk'=>hk.fix k ((fun k hk'=>est2_fix (Nat.lt_of_lt_of_le hk' hB) (fun e=>e.elim) (fun e=>e.elim)) k hk')
  have hsz:=hk.world.size
  have y2:=hin2.same (w':=w) (fun k hk' _=>hfx k hk')
  have y3:=hin3.same (w':=w) (fun k hk' _=>hfx k hk')
  exact obE_loadRow rfl e2 x2 Try.underlying28 rfl (by kernel_rfl) (wanted_none rfl) rfl
 ·refine ⟨⟨fun τ=>stableE_det _,leans_not⟩,?_⟩
  intro a w O hk
  have e11:a.eval (.tmp 11)=tmV pa ta:=hk.fact 0 _ 11 rfl rfl rfl rfl
  have x2:=hk.world.still hx2 (fun ⟨_,h⟩=>h.elim And.right And.right)
  have x3:=hk.world.still hx3 (fun ⟨_,h⟩=>h.elim And.right And.right)
  have hfx:∀ k,k<B→w.heap[k]?=w0.heap[k]?:=fun k hk'=>hk.fix k ((fun k hk'=>est2_fix (Nat.lt_of_lt_of_le hk' hB) (fun e=>e.elim) (fun e=>e.elim)) k hk')
  have hsz:=hk.world.size
  have y2:=hin2.same (w':=w) (fun k hk' _=>hfx k hk')
  have y3:=hin3.same (w':=w) (fun k hk' _=>hfx k hk')
  exact obE_callV #[tmV pa ta] rfl rfl rfl rfl (by simp only [List.map_cons,List.map_nil];rw [e11];try rfl) (wanted_none rfl) ((tooGreat_calls ta pa w (TmIn.mono y2 (Nat.le_trans hB hsz))).mono fun e w' h=>⟨by rw [h.1,h1],h.2⟩)
 ·refine ⟨⟨fun τ=>stableE_det _,leans_not⟩,?_⟩
  intro a w O hk
  have e3:a.eval (.tmp 3)=.pointer (some ⟨gb,0,none⟩):=(hk.init 3 (initialB_of_nw nw3)).trans hi3
  have x2:=hk.world.still hx2 (fun ⟨_,h⟩=>h.elim And.right And.right)
  have x3:=hk.world.still hx3 (fun ⟨_,h⟩=>h.elim And.right And.right)
  have hfx:∀ k,k<B→w.heap[k]?=w0.heap[k]?:=fun k hk'=>hk.fix k ((fun k hk'=>est2_fix (Nat.lt_of_lt_of_le hk' hB) (fun e=>e.elim) (fun e=>e.elim)) k hk')
  have hsz:=hk.world.size
  have y2:=hin2.same (w':=w) (fun k hk' _=>hfx k hk')
  have y3:=hin3.same (w':=w) (fun k hk' _=>hfx k hk')
  exact obE_loadRow rfl e3 x3 Try.underlying28 rfl (by kernel_rfl) (wanted_none rfl) rfl
 ·refine ⟨⟨fun τ=>stableE_det _,leans_not⟩,?_⟩
  intro a w O hk
  have e13:a.eval (.tmp 13)=tmV pb tb:=hk.fact 2 _ 13 rfl rfl rfl rfl
  have x2:=hk.world.still hx2 (fun ⟨_,h⟩=>h.elim And.right And.right)
  have x3:=hk.world.still hx3 (fun ⟨_,h⟩=>h.elim And.right And.right)
  have hfx:∀ k,k<B→w.heap[k]?=w0.heap[k]?:=fun k hk'=>hk.fix k ((fun k hk'=>est2_fix (Nat.lt_of_lt_of_le hk' hB) (fun e=>e.elim) (fun e=>e.elim)) k hk')
  have hsz:=hk.world.size
  have y2:=hin2.same (w':=w) (fun k hk' _=>hfx k hk')
  have y3:=hin3.same (w':=w) (fun k hk' _=>hfx k hk')
  exact obE_callV #[tmV pb tb] rfl rfl rfl rfl (by simp only [List.map_cons,List.map_nil];rw [e13];try rfl) (wanted_none rfl) ((tooGreat_calls tb pb w (TmIn.mono y3 (Nat.le_trans hB hsz))).mono fun e w' h=>⟨by rw [h.1,h2],h.2⟩)
 ·refine ⟨⟨fun τ=>stableE_det _,leans_not⟩,?_⟩
  intro a w O hk
  have e12:a.eval (.tmp 12)=.bool x:=hk.fact 1 _ 12 rfl rfl rfl rfl
  have e14:a.eval (.tmp 14)=.bool y:=hk.fact 3 _ 14 rfl rfl rfl rfl
  have x2:=hk.world.still hx2 (fun ⟨_,h⟩=>h.elim And.right And.right)
  have x3:=hk.world.still hx3 (fun ⟨_,h⟩=>h.elim And.right And.right)
  have hfx:∀ k,k<B→w.heap[k]?=w0.heap[k]?:=fun k hk'=>hk.fix k ((fun k hk'=>est2_fix (Nat.lt_of_lt_of_le hk' hB) (fun e=>e.elim) (fun e=>e.elim)) k hk')
  have hsz:=hk.world.size
  have y2:=hin2.same (w':=w) (fun k hk' _=>hfx k hk')
  have y3:=hin3.same (w':=w) (fun k hk' _=>hfx k hk')
  exact toE (ob_eqlBool (x == y) rfl e12 e14 Try.underlying4 rfl (wanted_none rfl) rfl)
 ·refine ⟨⟨fun τ=>stableE_det _,leans_not⟩,?_⟩
  intro a w O hk
  have e15:a.eval (.tmp 15)=.bool (x == y):=hk.fact 4 _ 15 rfl rfl rfl rfl
  exact toE (ob_assign rfl e15 (wanted_none rfl) rfl)
set_option maxRecDepth 100000 in
set_option maxHeartbeats 8000000 in
theorem al2_region {Q:Exit→Act→World→Prop} {id:Nat} (w0:World) (B:Nat) (ga:Nat) (pa:Pl) (ta:Tm) (gb:Nat) (pb:Pl) (tb:Tm) (x y:Bool) {s0 s1 s4 s5 s6 s7 s8 s9 s10 s11 s12 s13 s14 s15 s16 s17 s18:Value} (hB:B≤w0.heap.size) (hx2:w0.heap[ga]?=some (tmO pa ta)) (hin2:TmIn w0 B pa ta) (hx3:w0.heap[gb]?=some (tmO pb tb)) (hin3:TmIn w0 B pb tb) (h1:(!decide (okT ta))=x) (h2:(!decide (okT tb))=y)
  (hend:∀ (w':World),Chg (fun k=>False∨False) w0 w'→Q .normal { tmps:=(s0 :: s1 :: (.pointer (some ⟨ga,0,none⟩)) :: (.pointer (some ⟨gb,0,none⟩)) :: (.bool (x == y)) :: s5 :: s6 :: s7 :: s8 :: s9 :: s10 :: (tmV pa ta) :: (.bool x) :: (tmV pb tb) :: (.bool y) :: (.bool (x == y)) :: s16 :: s17 :: s18 :: []:List Value).toArray,defers:=[] } w') :
  (Code.region id al2_ops.toArray true).wp Try.prog Q { tmps:=(s0 :: s1 :: (.pointer (some ⟨ga,0,none⟩)) :: (.pointer (some ⟨gb,0,none⟩)) :: s4 :: s5 :: s6 :: s7 :: s8 :: s9 :: s10 :: s11 :: s12 :: s13 :: s14 :: s15 :: s16 :: s17 :: s18 :: []:List Value).toArray,defers:=[] } w0:=by
 refine wp_region_est (by kernel_rfl) (est2 0 0 (fun _=>False) (fun _=>False)) al2_C (al2_F w0 B ga pa ta gb pb tb x y) (est2_dis (fun _ h _=>h)) (est2_range (fun _ h=>h.elim) (fun _ h=>h.elim)) (by rfl) (by kernel_rfl) (al2_obs w0.drew B ga pa ta gb pb tb x y hB hx2 (TmS.same hin2 (fun _ _ _=>rfl)) hx3 (TmS.same hin3 (fun _ _ _=>rfl)) h1 h2 _ _ rfl rfl) ?_
 intro a w' O hd hs hb hf hf2 ha hsame
 have hl:=slots_eq (ops:=al2_ops.toArray) [(4,.bool (x == y)),(11,tmV pa ta),(12,.bool x),(13,tmV pb tb),(14,.bool y),(15,.bool (x == y))] (show a.tmps.size=19 from hs) (fun i h=>hsame i h) ⟨(hf 5 _ 4 rfl rfl (by decide)).1,(hf 0 _ 11 rfl rfl (by decide)).1,(hf 1 _ 12 rfl rfl (by decide)).1,(hf 2 _ 13 rfl rfl (by decide)).1,(hf 3 _ 14 rfl rfl (by decide)).1,(hf 4 _ 15 rfl rfl (by decide)).1,trivial⟩ (by kernel_rfl)
 obtain ⟨tmps,defers⟩:=a
 obtain rfl:defers=[]:=hd
 have hl':tmps=_:=hl
 rw [hl']
 have hb':=est2_chg hb
 refine Eq.mp ?_ (hend w' ⟨hb'.os,hb'.tape,hb'.output,hb'.size,hb'.block⟩)
 kernel_rfl
set_option maxRecDepth 100000 in
set_option maxHeartbeats 4000000 in
theorem alike_calls (t u:Tm) (p q:Pl) (w:World) (hco:okT t→okT u→CmpOk t u) (hin:TmIn w w.heap.size p t) (hin2:TmIn w w.heap.size q u) :
  Calls Try.prog 22 #[tmV p t,tmV q u] w fun e w'=>e=.returned (.bool (alikeT t u))∧Below w.heap.size w w':=by
 have HCO:=Ak hco
 have HIN:=Ak hin
 have HIN2:=Ak hin2
 obtain ⟨W,hW⟩:∃ W,W=(w.alloc (tmO p t)).alloc (tmO q u):=⟨_,rfl⟩
 have hb:Below w.heap.size w W:=by rw [hW];exact below_alloc (below_alloc (Below.refl _ _) _) _
 have HX:=Ak (show W.heap[w.heap.size]?=some (tmO p t) by rw [hW];exact box0 w _ _)
 have HY:=Ak (show W.heap[w.heap.size+1]?=some (tmO q u) by rw [hW];exact box1 w _ _)
 have HB:=Ak hb
 clear hin hin2 hb hco
 unfold tmV
 unfold tmO at hW
 go_enter Try.func22,Try.ntmps22
 go_upto_region 1 with (fail)
 rw [← hW]
 clear hW
 obtain ⟨ga,hga⟩:∃ x,(!decide (okT t))=x:=⟨_,rfl⟩
 obtain ⟨gb,hgb⟩:∃ x,(!decide (okT u))=x:=⟨_,rfl⟩
 have HG1:=Ak hga
 have HG2:=Ak hgb
 have HE:=Ak (show alikeT t u=if ga=false∧gb=false then nearT t u else (ga == gb) by
  unfold alikeT
  rw [← hga,← hgb]
  by_cases h1:okT t <;> by_cases h2:okT u <;> simp [h1,h2])
 have HOK:=Ak (show ga=false→gb=false→CmpOk t u from fun h1 h2=>HCO.out (by rw [← hga] at h1;simpa using h1) (by rw [← hgb] at h2;simpa using h2))
 clear hga hgb
 cases ga with
 | true =>
  have HE2:=Ak (show alikeT t u=(true == gb) by rw [HE.out];simp)
  go_upto_region 2 with (first
   | (refine wpList_load_row rfl 28 _ rfl (w.heap.size) rfl 28 _ (0,0) _ HX.out Try.underlying28 rfl (by kernel_rfl) ?_)
   | (go_at_call 26;go_must (refine (tooGreat_calls t p W (below_all HIN.out HB.out)).mono ?_;rintro e w1 ⟨rfl,hb⟩;rw [HG1.out];have HB1:=Ak (below_then HB.out HB.out.size hb);have HX1:=Ak ((hb.block _ (blk_lt HX.out)).trans HX.out);have HY1:=Ak ((hb.block _ (blk_lt HY.out)).trans HY.out);obtain ⟨y0,y1,y2,y3,y4,y5,y6,y7⟩:=row8 HY1.out;clear hb)))
  refine al2_region w1 w1.heap.size w.heap.size p t (w.heap.size+1) q u true gb (Nat.le_refl _) HX1.out (below_all HIN.out HB1.out) HY1.out (below_all HIN2.out HB1.out) HG1.out HG2.out ?_
  intro w4 hch
  have HB4:=Ak (below_then HB1.out HB1.out.size (hch.below (fun _ h=>h.elim False.elim False.elim) (Nat.le_refl _)))
  clear hch
  go_wp2
  go_ret
  rw [HE2.out]
  exact ⟨rfl,HB4.out⟩
 | false =>
  cases gb with
  | true =>
   have HE2:=Ak (show alikeT t u=(false == true) by rw [HE.out];simp)
   go_upto_region 2 with (first
    | (refine wpList_load_row rfl 28 _ rfl (w.heap.size) rfl 28 _ (0,0) _ HX.out Try.underlying28 rfl (by kernel_rfl) ?_)
    | (have hgd:=HB1;clear hgd;go_at_call 26;go_must (refine (tooGreat_calls u q w1 (below_all HIN2.out HB1.out)).mono ?_;rintro e w2 ⟨rfl,hb⟩;rw [HG2.out];have HB2:=Ak (below_then HB1.out HB1.out.size hb);have HX2:=Ak ((hb.block _ (blk_lt HX1.out)).trans HX1.out);have HY2:=Ak ((hb.block _ (blk_lt HY1.out)).trans HY1.out);obtain ⟨a0,a1,a2,a3,a4,a5,a6,a7⟩:=row8 HX2.out;obtain ⟨z0,z1,z2,z3,z4,z5,z6,z7⟩:=row8 HY2.out;clear hb))
    | (go_at_call 26;go_must (refine (tooGreat_calls t p W (below_all HIN.out HB.out)).mono ?_;rintro e w1 ⟨rfl,hb⟩;rw [HG1.out];have HB1:=Ak (below_then HB.out HB.out.size hb);have HX1:=Ak ((hb.block _ (blk_lt HX.out)).trans HX.out);have HY1:=Ak ((hb.block _ (blk_lt HY.out)).trans HY.out);obtain ⟨y0,y1,y2,y3,y4,y5,y6,y7⟩:=row8 HY1.out;clear hb)))
   refine al2_region w2 w2.heap.size w.heap.size p t (w.heap.size+1) q u false true (Nat.le_refl _) HX2.out (below_all HIN.out HB2.out) HY2.out (below_all HIN2.out HB2.out) HG1.out HG2.out ?_
   intro w4 hch
   have HB4:=Ak (below_then HB2.out HB2.out.size (hch.below (fun _ h=>h.elim False.elim False.elim) (Nat.le_refl _)))
   clear hch
   go_wp2
   go_ret
   rw [HE2.out]
   exact ⟨rfl,HB4.out⟩
  | false =>
   have HE2:=Ak (show alikeT t u=nearT t u by rw [HE.out];simp)
   have HCM:=Ak (HOK.out rfl rfl)
   go_wp2_with (first
    | (refine wpList_load_row rfl 28 _ rfl (w.heap.size) rfl 28 _ (0,0) _ HX.out Try.underlying28 rfl (by kernel_rfl) ?_)
    | (go_at_call 68;go_must (refine (near_calls _ t (Nat.lt_succ_self _) u p q w2 HCM.out (below_all HIN.out HB2.out) (below_all HIN2.out HB2.out)).mono ?_;rintro e w3 ⟨rfl,hb⟩;have HB3:=Ak (below_then HB2.out HB2.out.size hb);clear hb))
    | (have hgd:=HB1;clear hgd;go_at_call 26;go_must (refine (tooGreat_calls u q w1 (below_all HIN2.out HB1.out)).mono ?_;rintro e w2 ⟨rfl,hb⟩;rw [HG2.out];have HB2:=Ak (below_then HB1.out HB1.out.size hb);have HX2:=Ak ((hb.block _ (blk_lt HX1.out)).trans HX1.out);have HY2:=Ak ((hb.block _ (blk_lt HY1.out)).trans HY1.out);obtain ⟨a0,a1,a2,a3,a4,a5,a6,a7⟩:=row8 HX2.out;obtain ⟨z0,z1,z2,z3,z4,z5,z6,z7⟩:=row8 HY2.out;clear hb))
    | (go_at_call 26;go_must (refine (tooGreat_calls t p W (below_all HIN.out HB.out)).mono ?_;rintro e w1 ⟨rfl,hb⟩;rw [HG1.out];have HB1:=Ak (below_then HB.out HB.out.size hb);have HX1:=Ak ((hb.block _ (blk_lt HX.out)).trans HX.out);have HY1:=Ak ((hb.block _ (blk_lt HY.out)).trans HY.out);obtain ⟨y0,y1,y2,y3,y4,y5,y6,y7⟩:=row8 HY1.out;clear hb)))
   go_ret
   rw [HE2.out]
   exact ⟨rfl,HB3.out⟩
end Go.Proofs.Ytdboloabpjmgaaa

namespace Go.Proofs.Ytdboloabpjmgaaa
open Go.RowKit Go.Proofs.YtdboloabpjmgaaaW.PrintWords Go.RegionInvYtdboloabpjmgaaa Go.ChangeShapes Go.WideShapes Go.Deep

instance:Inhabited Lv:=⟨.mk 0 0 []⟩
end Go.Proofs.Ytdboloabpjmgaaa

namespace Go.Proofs.Ytdboloabpjmgaaa
open Go.RowKit Go.Proofs.YtdboloabpjmgaaaW.PrintWords Go.RegionInvYtdboloabpjmgaaa Go.ChangeShapes Go.WideShapes Go.Deep

section
variable {H:Type} {enc:TypeId × Value→H} {W:World} {base:Nat} {sp:Nat→Bool} {held:Bool}
def Sized (t:TypeId) (d:DataW H):Prop:=(DataW.weights Try.prog t d).all (·≤reachBytes)=true
theorem all_at {t:TypeId}:∀ {l:List (DataW H)},(DataW.weightsAll Try.prog t l).all (·≤reachBytes)=true→∀ (i:Nat) (d:DataW H),l[i]?=some d→Sized t d
 | [],_,i,d,h=>by simp at h
 | x :: r,hw,i,d,h=>by
  rw [DataW.weightsAll,List.all_append,Bool.and_eq_true] at hw
  cases i with
  | zero=>simp at h;subst h;exact hw.1
  | succ j=>exact all_at hw.2 j d (by simpa using h)
theorem each_at:∀ {ts:List TypeId} {l:List (DataW H)},(DataW.weightsEach Try.prog ts l).all (·≤reachBytes)=true→∀ (i:Nat) (t:TypeId) (d:DataW H),ts[i]?=some t→l[i]?=some d→Sized t d
 | [],l,_,i,t,d,h,_=>by simp at h
 | _ :: _,[],_,i,t,d,_,h=>by simp at h
 | s :: ts,x :: r,hw,i,t,d,ht,hd=>by
  rw [DataW.weightsEach,List.all_append,Bool.and_eq_true] at hw
  cases i with
  | zero=>simp at ht hd;subst ht;subst hd;exact hw.1
  | succ j=>exact each_at hw.2 j t d (by simpa using ht) (by simpa using hd)
theorem sized_agg {t:TypeId} {fs:Array Field} {ps:List (DataW H)} (hu:Try.prog.underlying t=some (.struct fs)) (h:Sized t (.agg ps)):∀ (i:Nat) (f:Field) (d:DataW H),fs[i]?=some f→ps[i]?=some d→Sized f.type d:=by
 unfold Sized at h
 rw [DataW.weights,hu] at h
 intro i f d hf hd
 exact each_at h i f.type d (by simp [hf]) hd
theorem sized_slices {t e:TypeId} {es rs:List (DataW H)} (hu:Try.prog.underlying t=some (.slice e)) (h:Sized t (.slice es rs)):(es.length+rs.length) * Try.prog.bytesOf e≤140737488351232∧∀ (i:Nat) (d:DataW H),es[i]?=some d→Sized e d:=by
 unfold Sized at h
 rw [DataW.weights,hu] at h
 simp only [List.all_cons,List.all_append,Bool.and_eq_true,decide_eq_true_eq] at h
 exact ⟨h.1,fun i d hd=>all_at h.2.1 i d hd⟩
theorem sized_str {t:TypeId} {s:List UInt8} (h:Sized (H:=H) t (.lit (.string s))):s.length≤140737488351232:=by
 unfold Sized at h
 rw [DataW.weights] at h
 have h':s.length≤reachBytes:=by simpa using h
 exact h'
theorem lvs_len {fuel:Nat} {v:Value} {y:DataW H × List MemPlace} (g:DataW.trod enc Try.prog W base sp held fuel 23 [v]=some y) (hw:Sized 23 y.1) {A:Option Addr} {n c:Nat} (he:v=.slice A n c):n * 40≤140737488355328:=by
 subst he
 rcases DataW.trod_slice Try.underlying23 g with ⟨e2,_⟩ | ⟨a,len,cap,elems,rest,n',hn',e2,hy,_,hle,hm,hlen,hel,_,_⟩
 ·have:n=0:=by simp at e2;exact e2.2.1
  omega
 ·have:n=len:=by simp at e2;exact e2.2.1
  subst this
  subst hy
  have h:=(sized_slices Try.underlying23 hw).1
  rw [show Try.prog.bytesOf 25=40 by kernel_rfl] at h
  simp only [List.length_map] at h
  have:=Nat.le_mul_of_pos_right elems.length (show 0<40 by decide)
  have h2:n * 40≤(elems.length+rest.length) * 40:=Nat.mul_le_mul_right _ (by omega)
  omega
theorem plain_addr {a:Addr} {v:Value} (h:W.cell? a=some v):a.spot=none:=by
 cases hs:a.spot with
 | none=>rfl
 | some z=>simp [World.cell?,hs] at h;split at h <;> simp at h
theorem int_range {n:Int} (h:(Lit.int .i64 n).wf=true):-9223372036854775808≤n∧n≤9223372036854775807:=by simpa [Lit.wf,IntKind.min,IntKind.max,IntKind.signed,IntKind.bits] using h
end
end Go.Proofs.Ytdboloabpjmgaaa

namespace Go.Proofs.Ytdboloabpjmgaaa
open Go.RowKit Go.Proofs.YtdboloabpjmgaaaW.PrintWords Go.RegionInvYtdboloabpjmgaaa Go.ChangeShapes Go.WideShapes Go.Deep

inductive TmM:Tm→Prop
 | mk {k n:Int} {nm:ByteArray} {lv:Lv} {ls:List Lv} {ks:List Tm} (hl:LvM mostRow lv) (hs:∀ x∈ls,LvM mostRow x) (hk:∀ x∈ks,TmM x):TmM (.mk k n nm lv ls ks)
theorem range_all {α:Type} {n:Nat} {f:Nat→α} {P:α→Prop} (h:∀ i,i<n→P (f i)):∀ x∈(List.range n).map f,P x:=by
 intro x hx
 obtain ⟨i,hi,rfl⟩:=List.mem_map.1 hx
 exact h i (List.mem_range.1 hi)
section
variable {H:Type} {enc:TypeId × Value→H} {W:World} {base:Nat} {sp:Nat→Bool} {held:Bool}
theorem row_le {es rs:List (DataW H)} (h:Sized (H:=H) 23 (.slice es rs)) {n:Nat} (hn:n≤es.length):n≤mostRow:=by
 have h1:=(sized_slices Try.underlying23 h).1
 rw [show Try.prog.bytesOf 25=40 by kernel_rfl] at h1
 have h2:n * 40≤(es.length+rs.length) * 40:=Nat.mul_le_mul_right _ (by omega)
 show n≤8796093022208
 omega
set_option maxRecDepth 100000 in
theorem lv_openM (F:Nat):∀ (fuel:Nat),fuel≤F→∀ (cs:List Value) (x:DataW H × List MemPlace),
  DataW.trod enc Try.prog W base sp held fuel 25 cs=some x→Sized 25 x.1→∃ (l:Lv) (A:Option Addr) (c:Nat),cs=[.int .i64 l.kind,.int .i64 l.num,.slice A l.kids.length c]∧LvS W (fun _=>True) A c l∧(Lit.int .i64 l.kind).wf=true∧(Lit.int .i64 l.num).wf=true∧LvM mostRow l:=by
 induction F with
 | zero =>
  intro fuel hF cs x h
  obtain ⟨xs,n,hn,_⟩:=DataW.trod_struct Try.underlying25 h
  omega
 | succ F ih =>
  intro fuel hF cs x h hw
  obtain ⟨xs,n,hn,hx,hl,hxl,hf⟩:=DataW.trod_struct Try.underlying25 h
  have hl3:cs.length=3:=by rw [hl];kernel_rfl
  match xs,hxl,cs,hl3 with
  | [y0,y1,y2],_,[v0,v1,v2],_ =>
   subst hx
   have g0:DataW.trod enc Try.prog W base sp held n 3 [v0]=some y0:=hf 0 _ rfl
   have g1:DataW.trod enc Try.prog W base sp held n 3 [v1]=some y1:=hf 1 _ rfl
   have g2:DataW.trod enc Try.prog W base sp held n 23 [v2]=some y2:=hf 2 _ rfl
   have z2:Sized 23 y2.1:=sized_agg Try.underlying25 hw 2 _ _ rfl rfl
   obtain ⟨k,e0,_,w0⟩:=DataW.trod_int Try.underlying3 g0
   obtain ⟨m,e1,_,w1⟩:=DataW.trod_int Try.underlying3 g1
   obtain rfl:v0=.int .i64 k:=by simpa using e0
   obtain rfl:v1=.int .i64 m:=by simpa using e1
   rcases DataW.trod_slice Try.underlying23 g2 with ⟨e2,_⟩ | ⟨a,len,cap,elems,rest,n',hn',e2,hy,_,hle,hm,hlen,hel,_,_⟩
   ·obtain rfl:v2=.slice none 0 0:=by simpa using e2
    exact ⟨.mk k m [],none,0,rfl,.mk (fun _=>none) (fun _=>0) (by simp) (by omega) (fun i x hx=>by simp at hx) (fun i x hx=>by simp at hx),w0,w1,.mk (by simp) (fun x hx=>by simp at hx)⟩
   ·obtain rfl:v2=.slice (some a) len cap:=by simpa using e2
    subst hy
    have hz:=(sized_slices Try.underlying23 z2).2
    have hlr:=row_le z2 (n:=len) (by simp;omega)
    have hc3:Try.prog.cellsOf 25=3:=by kernel_rfl
    rw [hc3] at hel
    have each:∀ i,i<len→∃ q:Lv × Option Addr × Nat,W.cells? base (a.add (i * 3)) 3=some [.int .i64 q.1.kind,.int .i64 q.1.num,.slice q.2.1 q.1.kids.length q.2.2]∧LvS W (fun _=>True) q.2.1 q.2.2 q.1∧LvM mostRow q.1:=by
     intro i hi
     have hq:=hel i hi
     rw [List.getElem?_eq_getElem (by omega)] at hq
     obtain ⟨cs',h1,h2⟩:=Option.bind_eq_some_iff.1 hq
     obtain ⟨l,A,c,rfl,h3,_,_,h4⟩:=ih n' (by omega) cs' _ h2 (hz i _ (by rw [List.getElem?_map,List.getElem?_eq_getElem (by omega)];rfl))
     exact ⟨(l,A,c),h1,h3,h4⟩
    obtain ⟨q,hq⟩:=choose_lt each
    have hcell:∀ i,i<len→∀ j,j<3→W.cell? ((a.add (i * 3)).add j)=([.int .i64 (q i).1.kind,.int .i64 (q i).1.num,.slice (q i).2.1 (q i).1.kids.length (q i).2.2]:List Value)[j]?:=fun i hi j hj=>(World.cells?_some (hq i hi).1).2.2 j hj
    have hget:∀ (i:Nat) (x:Lv),((List.range len).map fun i=>(q i).1)[i]?=some x→i<len∧x=(q i).1:=by
     intro i x hx
     have hi:i<len:=by
      rcases Nat.lt_or_ge i len with h | h
      ·exact h
      ·rw [List.getElem?_eq_none (by simpa using h)] at hx;cases hx
     rw [List.getElem?_map,List.getElem?_range hi] at hx
     exact ⟨hi,(Option.some.inj hx).symm⟩
    refine ⟨.mk k m ((List.range len).map fun i=>(q i).1),some a,cap,by simp [Lv.kind,Lv.num,Lv.kids],.mk (fun i=>(q i).2.1) (fun i=>(q i).2.2) (by simpa using hle) (by simp only [maxLen] at hm;omega) (fun i x hx=>?_) (fun i x hx=>?_),w0,w1,.mk (by simpa using hlr) (range_all fun i hi=>(hq i hi).2.2)⟩
    ·obtain ⟨hi,rfl⟩:=hget i x hx
     have hsp:a.spot=none:=by
      have h0:=hcell 0 (by omega) 0 (by omega)
      simp only [Nat.zero_mul,Addr.add,if_true] at h0
      cases hs:a.spot with
      | none=>rfl
      | some z=>simp [World.cell?,hs] at h0;split at h0 <;> simp at h0
     obtain ⟨b,o,z⟩:=a
     obtain rfl:z=none:=hsp
     have c0:=hcell i hi 0 (by omega)
     have c1:=hcell i hi 1 (by omega)
     have c2:=hcell i hi 2 (by omega)
     simp only [add_flat] at c0 c1 c2
     exact ⟨_,rfl,trivial,rfl,by rw [add_flat];exact c0,by rw [add_flat];exact c1,by rw [add_flat];exact c2⟩
    ·obtain ⟨hi,rfl⟩:=hget i x hx
     exact (hq i hi).2.1
set_option maxRecDepth 100000 in
theorem lvs_openM {fuel:Nat} {v2:Value} {y2:DataW H × List MemPlace} (g2:DataW.trod enc Try.prog W base sp held fuel 23 [v2]=some y2) (z2:Sized 23 y2.1) :
  ∃ (vs:List Lv) (A:Option Addr) (c:Nat),v2=.slice A vs.length c∧LvS W (fun _=>True) A c (.mk 0 0 vs)∧∀ x∈vs,LvM mostRow x:=by
 rcases DataW.trod_slice Try.underlying23 g2 with ⟨e2,_⟩ | ⟨a,len,cap,elems,rest,n',hn',e2,hy,_,hle,hm,hlen,hel,_,_⟩
 ·obtain rfl:v2=.slice none 0 0:=by simpa using e2
  exact ⟨[],none,0,rfl,.mk (fun _=>none) (fun _=>0) (by simp) (by omega) (fun i x hx=>by simp at hx) (fun i x hx=>by simp at hx),fun x hx=>by simp at hx⟩
 ·obtain rfl:v2=.slice (some a) len cap:=by simpa using e2
  subst hy
  have hz:=(sized_slices Try.underlying23 z2).2
  have hc3:Try.prog.cellsOf 25=3:=by kernel_rfl
  rw [hc3] at hel
  have each:∀ i,i<len→∃ q:Lv × Option Addr × Nat,W.cells? base (a.add (i * 3)) 3=some [.int .i64 q.1.kind,.int .i64 q.1.num,.slice q.2.1 q.1.kids.length q.2.2]∧LvS W (fun _=>True) q.2.1 q.2.2 q.1∧LvM mostRow q.1:=by
   intro i hi
   have hq:=hel i hi
   rw [List.getElem?_eq_getElem (by omega)] at hq
   obtain ⟨cs',h1,h2⟩:=Option.bind_eq_some_iff.1 hq
   obtain ⟨l,A,c,rfl,h3,_,_,h4⟩:=lv_openM n' n' (Nat.le_refl _) cs' _ h2 (hz i _ (by rw [List.getElem?_map,List.getElem?_eq_getElem (by omega)];rfl))
   exact ⟨(l,A,c),h1,h3,h4⟩
  obtain ⟨q,hq⟩:=choose_lt each
  have hcell:∀ i,i<len→∀ j,j<3→W.cell? ((a.add (i * 3)).add j)=([.int .i64 (q i).1.kind,.int .i64 (q i).1.num,.slice (q i).2.1 (q i).1.kids.length (q i).2.2]:List Value)[j]?:=fun i hi j hj=>(World.cells?_some (hq i hi).1).2.2 j hj
  have hget:∀ (i:Nat) (x:Lv),((List.range len).map fun i=>(q i).1)[i]?=some x→i<len∧x=(q i).1:=by
   intro i x hx
   have hi:i<len:=by
    rcases Nat.lt_or_ge i len with h | h
    ·exact h
    ·rw [List.getElem?_eq_none (by simpa using h)] at hx;cases hx
   rw [List.getElem?_map,List.getElem?_range hi] at hx
   exact ⟨hi,(Option.some.inj hx).symm⟩
  refine ⟨(List.range len).map fun i=>(q i).1,some a,cap,by simp,.mk (fun i=>(q i).2.1) (fun i=>(q i).2.2) (by simpa using hle) (by simp only [maxLen] at hm;omega) (fun i x hx=>?_) (fun i x hx=>?_),range_all fun i hi=>(hq i hi).2.2⟩
  ·obtain ⟨hi,rfl⟩:=hget i x hx
   have hsp:a.spot=none:=by
    have h0:=hcell 0 (by omega) 0 (by omega)
    simp only [Nat.zero_mul,Addr.add,if_true] at h0
    cases hs:a.spot with
    | none=>rfl
    | some z=>simp [World.cell?,hs] at h0;split at h0 <;> simp at h0
   obtain ⟨b,o,z⟩:=a
   obtain rfl:z=none:=hsp
   have c0:=hcell i hi 0 (by omega)
   have c1:=hcell i hi 1 (by omega)
   have c2:=hcell i hi 2 (by omega)
   simp only [add_flat] at c0 c1 c2
   exact ⟨_,rfl,trivial,rfl,by rw [add_flat];exact c0,by rw [add_flat];exact c1,by rw [add_flat];exact c2⟩
  ·obtain ⟨hi,rfl⟩:=hget i x hx
   exact (hq i hi).2.1
set_option maxRecDepth 100000 in
set_option maxHeartbeats 4000000 in
theorem tm_openM (F:Nat):∀ (fuel:Nat),fuel≤F→∀ (cs:List Value) (x:DataW H × List MemPlace),DataW.trod enc Try.prog W base sp held fuel 28 cs=some x→Sized 28 x.1 →
  ∃ (t:Tm) (p:Pl),cs=tmC p t∧TmS W (fun _=>True) p t∧TmM t:=by
 induction F with
 | zero =>
  intro fuel hF cs x h
  obtain ⟨xs,n,hn,_⟩:=DataW.trod_struct Try.underlying28 h
  omega
 | succ F ih =>
  intro fuel hF cs x h hw
  obtain ⟨xs,n,hn,hx,hl,hxl,hf⟩:=DataW.trod_struct Try.underlying28 h
  have hl8:cs.length=8:=by rw [hl];kernel_rfl
  match xs,hxl,cs,hl8 with
  | [y0,y1,y2,y3,y4,y5],_,[v0,v1,v2,v3,v4,v5,v6,v7],_ =>
   subst hx
   have g0:DataW.trod enc Try.prog W base sp held n 3 [v0]=some y0:=hf 0 _ rfl
   have g1:DataW.trod enc Try.prog W base sp held n 3 [v1]=some y1:=hf 1 _ rfl
   have g2:DataW.trod enc Try.prog W base sp held n 9 [v2]=some y2:=hf 2 _ rfl
   have g3:DataW.trod enc Try.prog W base sp held n 25 [v3,v4,v5]=some y3:=hf 3 _ rfl
   have g4:DataW.trod enc Try.prog W base sp held n 23 [v6]=some y4:=hf 4 _ rfl
   have g5:DataW.trod enc Try.prog W base sp held n 26 [v7]=some y5:=hf 5 _ rfl
   have z2:Sized 9 y2.1:=sized_agg Try.underlying28 hw 2 _ _ rfl rfl
   have z3:Sized 25 y3.1:=sized_agg Try.underlying28 hw 3 _ _ rfl rfl
   have z4:Sized 23 y4.1:=sized_agg Try.underlying28 hw 4 _ _ rfl rfl
   have z5:Sized 26 y5.1:=sized_agg Try.underlying28 hw 5 _ _ rfl rfl
   obtain ⟨k,e0,_,w0⟩:=DataW.trod_int Try.underlying3 g0
   obtain ⟨m,e1,_,w1⟩:=DataW.trod_int Try.underlying3 g1
   obtain ⟨s,e2,e2',_⟩:=DataW.trod_string Try.underlying9 g2
   obtain rfl:v0=.int .i64 k:=by simpa using e0
   obtain rfl:v1=.int .i64 m:=by simpa using e1
   obtain rfl:v2=.string s:=by simpa using e2
   have hs:s.size≤140737488355328:=by
    rw [e2'] at z2
    have:=sized_str z2
    simp at this
    have e:s.size=s.data.size:=rfl
    omega
   obtain ⟨l,A,c,e3,hlv,_,_,hlm⟩:=lv_openM n n (Nat.le_refl _) _ _ g3 z3
   obtain ⟨ls,B,d,rfl,hls,hlsm⟩:=lvs_openM g4 z4
   have hll:=lvs_len g4 z4 rfl
   obtain ⟨rfl,rfl,rfl⟩:v3=.int .i64 l.kind∧v4=.int .i64 l.num∧v5=.slice A l.kids.length c:=by simpa using e3
   have hfit:Fit m s ls:=⟨int_range w1,hs,hll⟩
   rcases DataW.trod_slice Try.underlying26 g5 with ⟨e5,_⟩ | ⟨a,len,cap,elems,rest,n',hn',e5,hy,_,hle,hm,hlen,hel,_,_⟩
   ·obtain rfl:v7=.slice none 0 0:=by simpa using e5
    exact ⟨.mk k m s l ls [],⟨A,c,B,d,none,0⟩,rfl,.mk (fun _=>default) hlv hls (by simp) (by simp) hfit (fun i x hx=>by simp at hx) (fun i x hx=>by simp at hx),.mk hlm hlsm (fun x hx=>by simp at hx)⟩
   ·obtain rfl:v7=.slice (some a) len cap:=by simpa using e5
    subst hy
    have hz:=(sized_slices Try.underlying26 z5).2
    have hc8:Try.prog.cellsOf 28=8:=by kernel_rfl
    rw [hc8] at hel
    have each:∀ i,i<len→∃ q:Tm × Pl,W.cells? base (a.add (i * 8)) 8=some (tmC q.2 q.1)∧TmS W (fun _=>True) q.2 q.1∧TmM q.1:=by
     intro i hi
     have hq:=hel i hi
     rw [List.getElem?_eq_getElem (by omega)] at hq
     obtain ⟨cs',h1,h2⟩:=Option.bind_eq_some_iff.1 hq
     obtain ⟨t,p,rfl,h3,h4⟩:=ih n' (by omega) cs' _ h2 (hz i _ (by rw [List.getElem?_map,List.getElem?_eq_getElem (by omega)];rfl))
     exact ⟨(t,p),h1,h3,h4⟩
    obtain ⟨q,hq⟩:=choose_lt each
    have hcell:∀ i,i<len→∀ j,j<8→W.cell? ((a.add (i * 8)).add j)=(tmC (q i).2 (q i).1)[j]?:=fun i hi j hj=>(World.cells?_some (hq i hi).1).2.2 j hj
    have hget:∀ (i:Nat) (x:Tm),((List.range len).map fun i=>(q i).1)[i]?=some x→i<len∧x=(q i).1:=by
     intro i x hx
     have hi:i<len:=by
      rcases Nat.lt_or_ge i len with h | h
      ·exact h
      ·rw [List.getElem?_eq_none (by simpa using h)] at hx;cases hx
     rw [List.getElem?_map,List.getElem?_range hi] at hx
     exact ⟨hi,(Option.some.inj hx).symm⟩
    refine ⟨.mk k m s l ls ((List.range len).map fun i=>(q i).1),⟨A,c,B,d,some a,cap⟩,by simp [tmC,Tm.kind,Tm.num,Tm.name,Tm.lv,Tm.ls,Tm.kids],.mk (fun i=>(q i).2) hlv hls (by simpa using hle) (by simp only [maxLen] at hm;exact hm) hfit (fun i x hx=>?_) (fun i x hx=>?_),.mk hlm hlsm (range_all fun i hi=>(hq i hi).2.2)⟩
    ·obtain ⟨hi,rfl⟩:=hget i x hx
     have h0:=hcell 0 (by omega) 0 (by omega)
     simp only [Nat.zero_mul,Addr.add,if_true] at h0
     have hsp:a.spot=none:=plain_addr (h0.trans (by rfl))
     obtain ⟨b,o,z⟩:=a
     obtain rfl:z=none:=hsp
     refine ⟨b,o,rfl,trivial,fun j v hv=>?_⟩
     have hj:j<8:=by
      rcases Nat.lt_or_ge j 8 with h | h
      ·exact h
      ·rw [List.getElem?_eq_none (by rw [tmC_len];exact h)] at hv;cases hv
     have c0:=hcell i hi j hj
     simp only [add_flat] at c0
     rw [c0]
     exact hv
    ·obtain ⟨hi,rfl⟩:=hget i x hx
     exact (hq i hi).2.1
set_option maxRecDepth 100000 in
theorem tm_inM {v:Value} {d:DataW H} {ps:List MemPlace} {r:Reach} {b0:Nat} (hv:Value.okWide Try.prog W r b0 28 v) (h:DataW.Trod enc Try.prog W base sp held 28 v d ps) (hw:Sized 28 d) :
  ∃ (t:Tm) (p:Pl),v=tmV p t∧TmS W (fun _=>True) p t∧TmM t:=by
 obtain ⟨cs,rfl,hcs⟩:=okWide_struct Try.underlying28 hv
 obtain ⟨fuel,hf⟩:=h
 obtain ⟨t,p,he,ht⟩:=tm_openM fuel fuel (Nat.le_refl _) _ _ hf hw
 refine ⟨t,p,?_,ht⟩
 unfold tmV
 congr 1
 apply Array.toList_inj.1
 simpa [Value.cells,tmC] using he

set_option maxRecDepth 100000 in
theorem lv_inM {v:Value} {d:DataW H} {ps:List MemPlace} {r:Reach} {b0:Nat} (hv:Value.okWide Try.prog W r b0 25 v) (h:DataW.Trod enc Try.prog W base sp held 25 v d ps) (hw:Sized 25 d) :
  ∃ (l:Lv) (A:Option Addr) (c:Nat),v=lvV A c l∧LvS W (fun _=>True) A c l∧(Lit.int .i64 l.kind).wf=true∧(Lit.int .i64 l.num).wf=true∧LvM mostRow l:=by
 obtain ⟨cs,rfl,hcs⟩:=okWide_struct Try.underlying25 hv
 obtain ⟨fuel,hf⟩:=h
 obtain ⟨l,A,c,he,hl,hk,hn,hm⟩:=lv_openM fuel fuel (Nat.le_refl _) _ _ hf hw
 refine ⟨l,A,c,?_,hl,hk,hn,hm⟩
 unfold lvV
 congr 1
 apply Array.toList_inj.1
 simpa [Value.cells] using he
set_option maxRecDepth 100000 in
theorem lvs_inM {v:Value} {d:DataW H} {ps:List MemPlace} {r:Reach} {b0:Nat} (hv:Value.okWide Try.prog W r b0 23 v) (h:DataW.Trod enc Try.prog W base sp held 23 v d ps) (hw:Sized 23 d) :
  ∃ (vs:List Lv) (A:Option Addr) (c n:Nat),v=.slice A n c∧n=vs.length∧LvS W (fun _=>True) A c (.mk 0 0 vs)∧(∀ x∈vs,LvM mostRow x)∧n * 40≤140737488355328:=by
 obtain ⟨a,len,cap,rfl⟩:=okWide_slice Try.underlying23 hv
 obtain ⟨fuel,hf⟩:=h
 obtain ⟨vs,A,c,he,hl,hm⟩:=lvs_openM (v2:=.slice a len cap) hf hw
 have h40:=lvs_len hf hw he
 exact ⟨vs,A,c,_,he,rfl,hl,hm,h40⟩
end
end Go.Proofs.Ytdboloabpjmgaaa

namespace Go.Proofs.Ytdboloabpjmgaaa
open Go.RowKit Go.Proofs.YtdboloabpjmgaaaW.PrintWords Go.RegionInvYtdboloabpjmgaaa Go.RegionEYtdboloabpjmgaaa

theorem sim_cp (N:Nat):∀ (l:Lv),SizeOf.sizeOf l<N→simB (cpP l) l=true:=by
 induction N with
 | zero=>intro l h;omega
 | succ N ih =>
  rintro ⟨k,n,ks⟩ hN
  rw [cpP,cpKs_map,sim_ok (k:=k) (n:=if k=4 then 0 else n) (ks:=ks.map cpP) (l:=.mk k n ks) ⟨rfl,?_,by simp [Lv.kids]⟩]
  ·refine simKs_all (by simp [Lv.kids]) fun i x y h1 h2=>?_
   rw [List.getElem?_map] at h1
   have h2':ks[i]?=some y:=h2
   rw [h2'] at h1
   obtain rfl:cpP y=x:=by simpa using h1
   exact ih y (Nat.lt_of_lt_of_le (kid_small h2') (Nat.le_of_lt_succ hN))
  ·by_cases h:k=4
   ·exact .inl h
   ·right;show (if k=4 then 0 else n)=n;rw [if_neg h]
theorem sl_ow (l:Lv):slB (owP l) l=true:=by
 unfold slB
 cases hs:soundB l with
 | false=>simp
 | true=>rw [owP_sound hs,sim_cp _ l (Nat.lt_succ_self _)];rfl
theorem cp_m (M N:Nat):∀ (l:Lv),SizeOf.sizeOf l<N→LvM M l→LvM M (cpP l):=by
 induction N with
 | zero=>intro l h;omega
 | succ N ih =>
  rintro ⟨k,n,ks⟩ hN hm
  rw [cpP,cpKs_map]
  refine .mk (by rw [List.length_map];exact hm.len) fun x hx=>?_
  obtain ⟨y,hy,rfl⟩:=List.mem_map.1 hx
  refine ih y ?_ (hm.kid y hy)
  have:=List.sizeOf_lt_of_mem hy
  have e:=Lv.mk.sizeOf_spec k n ks
  omega
theorem ow_m {l:Lv} (h:LvM mostRow l):LvM mostRow (owP l):=by
 unfold owP
 split
 ·exact cp_m mostRow _ l (Nat.lt_succ_self _) h
 ·exact h
theorem lvM_zero:LvM mostRow lv0:=.mk (Nat.zero_le _) (fun x h=>by simp at h)
theorem TmM.lv {t:Tm} (h:TmM t):LvM mostRow t.lv:=by cases h;assumption
theorem TmM.ls {t:Tm} (h:TmM t):∀ x∈t.ls,LvM mostRow x:=by cases h;assumption
theorem TmM.kid {t:Tm} (h:TmM t):∀ x∈t.kids,TmM x:=by cases h;assumption
theorem TmM.kidF {t:Tm} (h:TmM t) (i:Fin (nK t)):TmM (kidF t i):=h.kid _ (List.getElem_mem _)
theorem TmM.cmp (N:Nat):∀ (t:Tm),SizeOf.sizeOf t<N→TmM t→∀ u,CmpOk t u:=by
 induction N with
 | zero=>intro t h;omega
 | succ N ih =>
  intro t hN h u
  exact .mk (fun _=>h.lv) (fun _ i x y hx _=>h.ls x (List.mem_of_getElem? hx)) (fun i=>ih _ (by have:=kidF_lt t i;omega) (h.kidF i) _)
theorem node_m {t:Tm} (h:TmM t):TmM (nodeP t):=by
 unfold nodeP
 refine .mk ?_ ?_ (fun x h=>by simp at h)
 ·split
  ·exact ow_m h.lv
  ·exact lvM_zero
 ·split
  ·intro x hx
   obtain ⟨y,hy,rfl⟩:=List.mem_map.1 hx
   exact ow_m (h.ls y hy)
  ·intro x hx;simp at hx
theorem reb_m (F:Tm→Int→Tm) (N:Nat):∀ (t:Tm),SizeOf.sizeOf t<N→∀ b,(∀ x e,leafT x=true→TmM x→TmM (F x e))→TmM t→TmM (rebP F t b):=by
 induction N with
 | zero=>intro t h;omega
 | succ N ih =>
  intro t hN b hF hm
  cases hl:leafT t with
  | true=>rw [reb_leaf hl];exact hF t b hl hm
  | false =>
   rw [reb_node hl]
   refine .mk lvM_zero (fun x h=>by simp at h) fun x hx=>?_
   obtain ⟨i,_,rfl⟩:=List.mem_map.1 hx
   exact ih _ (by have:=kidF_lt t i;omega) _ hF (hm.kidF i)
theorem zero_m:TmM zeroT:=.mk lvM_zero (fun x h=>by simp at h) (fun x h=>by simp at h)
end Go.Proofs.Ytdboloabpjmgaaa

namespace Go.Proofs.Ytdboloabpjmgaaa
open Go.RowKit Go.Proofs.YtdboloabpjmgaaaW.PrintWords Go.RegionInvYtdboloabpjmgaaa Go.RegionEYtdboloabpjmgaaa

structure Nr (a b:Tm):Prop where
 near:nearT a b=true
 size:sizeT a=sizeT b
 depth:depthT a=depthT b
theorem near_node {a b:Tm} (ha:leafT a=false) (hb:leafT b=false) (hk:a.kind=b.kind) (h:∀ i (h1:i<nK a) (h2:i<nK b),nearT (kidF a ⟨i,h1⟩) (kidF b ⟨i,h2⟩)=true) (hn:nK a=nK b):nearT a b=true:=by
 rw [near_eq,hn_node ha hb hk,Bool.true_and,List.all_eq_true]
 intro i _
 have h2:i.1<nK b:=by have:=i.2;omega
 have e:b.kids.getD i.1 default=kidF b ⟨i.1,h2⟩:=by
  have:=kidF_get b ⟨i.1,h2⟩
  rw [List.getD_eq_getElem?_getD,this]
  rfl
 rw [e]
 exact h i.1 i.2 h2
theorem sum_eq {α:Type} (xs:List α) (f g:α→Nat) (h:∀ x∈xs,f x=g x):xs.map f=xs.map g:=List.map_congr_left h
theorem size_over (F:Tm→Int→Tm) {t:Tm} {b:Int} (hl:leafT t=false):sizeT (overT F t b)=1+((List.finRange (nK t)).map fun i=>sizeT (rebP F (kidF t i) (b+moreZ t i))).sum∧depthT (overT F t b)=1+((List.finRange (nK t)).map fun i=>depthT (rebP F (kidF t i) (b+moreZ t i))).foldr max 0:=by
 have hn:=over_nK (RF:=F) (b:=b) hl
 have key:∀ (f:Tm→Nat),((List.finRange (nK (overT F t b))).map fun i=>f (kidF (overT F t b) i))=((List.finRange (nK t)).map fun i=>f (rebP F (kidF t i) (b+moreZ t i))):=by
  intro f
  apply List.ext_getElem
  ·simp [hn]
  ·intro i h1 h2
   simp only [List.getElem_map,List.getElem_finRange]
   exact congrArg f (over_kid i _ _)
 refine ⟨?_,?_⟩
 ·rw [sizeT,key sizeT]
 ·rw [depthT,key depthT]
theorem lvs_ow:∀ (ls:List Lv),lvsSl (ls.map owP) ls=true
 | []=>rfl
 | x :: r=>by
  show (slB (owP x) x && lvsSl (r.map owP) r)=true
  rw [sl_ow,lvs_ow r];rfl
theorem Nr.ok {a b:Tm} (h:Nr a b):okT a↔okT b:=by unfold okT;rw [h.size,h.depth]
theorem Nr.alike {a b:Tm} (h:Nr a b):alikeT a b=true:=by
 unfold alikeT
 by_cases ha:okT a
 ·rw [if_pos ⟨ha,h.ok.1 ha⟩];exact h.near
 ·have hb:¬ okT b:=fun k=>ha (h.ok.2 k)
  rw [if_neg (fun k=>ha k.1)]
  simp [ha,hb]
end Go.Proofs.Ytdboloabpjmgaaa

namespace Go.Proofs.Ytdboloabpjmgaaa
open Go.RowKit Go.Proofs.YtdboloabpjmgaaaW.PrintWords Go.RegionInvYtdboloabpjmgaaa Go.RegionEYtdboloabpjmgaaa

def LvV (T:Nat→Prop) (l:Lv) (v:Value) (w:World) (O:Nat→Prop):Prop:=∃ A c,v=lvV A c l∧LvS w (fun k=>T k∨O k) A c l
theorem LvV.all {T:Nat→Prop} {l:Lv} {v:Value} {w:World} {O:Nat→Prop} (h:LvV T l v w O):∃ A c,v=lvV A c l∧LvIn w w.heap.size A c l:=by
 obtain ⟨A,c,e,h⟩:=h
 exact ⟨A,c,e,h.all⟩
section
variable {ops:Array Oper} {Q:Exit→Act→World→Prop} {R:Nat→Prop} {a:Act} {w:World} {o:Oper} {T:Nat→Prop}

end
end Go.Proofs.Ytdboloabpjmgaaa

namespace Go.Proofs.Ytdboloabpjmgaaa
open Go.RowKit Go.Proofs.YtdboloabpjmgaaaW.PrintWords Go.RegionInvYtdboloabpjmgaaa Go.RegionEYtdboloabpjmgaaa

structure PK (w wr:World) (c:Int) (B:Value) (V:Value) (xs:List Lv):Prop where
 x1:wr.heap[w.heap.size]?=some (.cells #[.int .i64 c,B] 102 (0,0))
 x2:wr.heap[w.heap.size+1]?=some (.cells #[.int .i64 0,.int .i64 0,.slice none 0 0] 25 (0,0))
 kids:KidsAt wr (w.heap.size+2) V xs
 bel:Below w.heap.size w wr
theorem PK.later {w wr w':World} {c:Int} {B V:Value} {xs:List Lv} (h:PK w wr c B V xs) (hb:Below wr.heap.size wr w'):PK w w' c B V xs:=
 ⟨blk_below h.x1 hb,blk_below h.x2 hb,h.kids.later hb,below_then h.bel h.bel.size hb⟩
theorem PK.base {w wr:World} {c:Int} {B V:Value} {xs:List Lv} (h:PK w wr c B V xs):w.heap.size+2≤wr.heap.size:=by have:=blk_lt h.x2;omega
end Go.Proofs.Ytdboloabpjmgaaa

namespace Go.Proofs.Ytdboloabpjmgaaa
open Go.RowKit Go.Proofs.YtdboloabpjmgaaaW.PrintWords Go.RegionInvYtdboloabpjmgaaa Go.RegionEYtdboloabpjmgaaa

def lvAt (vs:List Lv) (n:Int):Lv:=vs.getD n.toNat (.mk 0 0 [])
def Kept (vs:List Lv) (fs fs':List Nf):Prop:=fs'.length=fs.length∧∀ i:Nat,i<vs.length→fs[i]?=some (sumP (lvAt vs i))→fs'[i]?=some (sumP (lvAt vs i))
theorem Kept.trans {vs:List Lv} {a b c:List Nf} (h1:Kept vs a b) (h2:Kept vs b c):Kept vs a c:=⟨h2.1.trans h1.1,fun i hi h=>h2.2 i hi (h1.2 i hi h)⟩
end Go.Proofs.Ytdboloabpjmgaaa

namespace Go.Proofs.Ytdboloabpjmgaaa
open Go.RowKit Go.Proofs.YtdboloabpjmgaaaW.PrintWords Go.RegionInvYtdboloabpjmgaaa Go.RegionEYtdboloabpjmgaaa

theorem m1 {k n:Int} {x:Lv} (h:LvM mostRow x):LvM mostRow (.mk k n [x]):=.mk (by show 1≤8796093022208;omega) (fun y hy=>(List.mem_singleton.1 hy) ▸ h)
theorem m2 {k n:Int} {x y:Lv} (h:LvM mostRow x) (h2:LvM mostRow y):LvM mostRow (.mk k n [x,y]):=.mk (by show 2≤8796093022208;omega) (fun z hz=>by
 simp only [List.mem_cons,List.not_mem_nil,or_false] at hz
 rcases hz with rfl | rfl
 ·exact h
 ·exact h2)
end Go.Proofs.Ytdboloabpjmgaaa

namespace Go.Proofs.Ytdboloabpjmgaaa
open Go.RowKit Go.Proofs.YtdboloabpjmgaaaW.PrintWords Go.RegionInvYtdboloabpjmgaaa Go.RegionEYtdboloabpjmgaaa

structure TsR (w:World) (rb:Nat) (S:Nat→Prop) (q:Nat→Pl) (xs:List Tm):Prop where
 row:∃ arr:Array Value,w.heap[rb]?=some (.cells arr 28 (0,0))∧xs.length * 8≤arr.size
 cells:∀ (i:Nat) (x:Tm),xs[i]?=some x→w.rangeAt rb (i * 8) (tmC (q i) x)
 tms:∀ (i:Nat) (x:Tm),xs[i]?=some x→TmS w S (q i) x
theorem TsR.lt {w:World} {rb:Nat} {S:Nat→Prop} {q:Nat→Pl} {xs:List Tm} (h:TsR w rb S q xs):rb<w.heap.size:=by
 obtain ⟨arr,ha,-⟩:=h.row
 exact blk_lt ha
theorem TsR.same {w w':World} {rb:Nat} {S:Nat→Prop} {q:Nat→Pl} {xs:List Tm} (h:TsR w rb S q xs) (h1:w'.heap[rb]?=w.heap[rb]?) (h2:∀ k,S k→k<w.heap.size→w'.heap[k]?=w.heap[k]?):TsR w' rb S q xs:=by
 obtain ⟨arr,ha,hl⟩:=h.row
 exact ⟨⟨arr,h1.trans ha,hl⟩,fun i x hi j v hv=>(cell_same h1).trans (h.cells i x hi j v hv),fun i x hi=>(h.tms i x hi).same h2⟩
theorem TsR.mono {w:World} {rb:Nat} {S S':Nat→Prop} {q:Nat→Pl} {xs:List Tm} (h:TsR w rb S q xs) (h2:∀ k,S k→k<w.heap.size→S' k):TsR w rb S' q xs:=
 ⟨h.row,h.cells,fun i x hi=>(h.tms i x hi).mono h2⟩
theorem TsR.there {w:World} {rb j:Nat} {S:Nat→Prop} {q:Nat→Pl} {xs:List Tm} (h:TsR w rb S q xs) (hj:j<xs.length):w.there rb (j * 8) 8:=fun m hm=>by
 obtain ⟨arr,ha,hl⟩:=h.row
 refine ⟨?_,blk_frozen ha _⟩
 rw [cell_of_row _ _ _ _ _ _ ha,Array.getElem?_eq_getElem (by omega)];rfl
theorem setCells_block {g:Nat} {t:TypeId}:∀ {w:World} {arr:Array Value},w.heap[g]?=some (.cells arr t (0,0))→∀ (o:Nat) (vs:List Value),∃ arr',(w.setCells g o vs).heap[g]?=some (.cells arr' t (0,0))∧arr'.size=arr.size
 | w,arr,h,o,[]=>⟨arr,h,rfl⟩
 | w,arr,h,o,v :: r=>by
  rw [World.setCells]
  obtain ⟨a',h1,h2⟩:=setCells_block (blk_put h o v rfl) (o+1) r
  exact ⟨a',h1,by rw [h2];simp⟩
theorem TsR.set {w:World} {rb j:Nat} {S:Nat→Prop} {q:Nat→Pl} {xs:List Tm} (h:TsR w rb S q xs) (hj:j<xs.length) (hS:¬ S rb) (p:Pl) (y:Tm) (hy:TmS w S p y) :
  TsR (w.setCells rb (j * 8) (tmC p y)) rb S (fun k=>if k=j then p else q k) (xs.set j y)∧Chg (fun k=>k=rb) w (w.setCells rb (j * 8) (tmC p y)):=by
 obtain ⟨s1,s2,s3,s4,s5⟩:=setCells_other rb (tmC p y) (j * 8) w
 have hth:=h.there hj
 have hst:∀ (k:Nat),S k→k<w.heap.size→(w.setCells rb (j * 8) (tmC p y)).heap[k]?=w.heap[k]?:=fun k hk _=>s5 k (fun e=>hS (e ▸ hk))
 refine ⟨⟨?_,fun i x hi=>?_,fun i x hi=>?_⟩,⟨s1,s2,s3,Nat.le_of_eq s4.symm,fun k _ hn=>s5 k hn⟩⟩
 ·obtain ⟨arr,ha,hl⟩:=h.row
  obtain ⟨arr',ha',hl'⟩:=setCells_block ha (j * 8) (tmC p y)
  exact ⟨arr',ha',by rw [List.length_set,hl'];exact hl⟩
 ·rw [List.getElem?_set] at hi
  by_cases e:j=i
  ·subst e
   rw [if_pos rfl,if_pos hj] at hi
   obtain rfl:y=x:=by simpa using hi
   simp only [if_pos]
   exact World.rangeAt_setCells_same w rb (j * 8) (tmC p y) hth
  ·rw [if_neg e] at hi
   have e2:¬ i=j:=fun h=>e h.symm
   simp only [if_neg e2]
   exact World.rangeAt_setCells_apart (h.cells i x hi) rb (j * 8) (tmC p y) (by right;show i * 8+8≤j * 8∨j * 8+8≤i * 8;omega)
 ·rw [List.getElem?_set] at hi
  by_cases e:j=i
  ·subst e
   rw [if_pos rfl,if_pos hj] at hi
   obtain rfl:y=x:=by simpa using hi
   simp only [if_pos]
   exact hy.same hst
  ·rw [if_neg e] at hi
   have e2:¬ i=j:=fun h=>e h.symm
   simp only [if_neg e2]
   exact (h.tms i x hi).same hst
def revK (xs:List Tm) (k:Nat):List Tm:=(List.range xs.length).map fun m=>if m<k∨xs.length - 1 - m<k then xs.getD (xs.length - 1 - m) default else xs.getD m default
theorem revK_len (xs:List Tm) (k:Nat):(revK xs k).length=xs.length:=by simp [revK]
theorem revK_get {xs:List Tm} {k m:Nat} (hm:m<xs.length):(revK xs k)[m]?=some (if m<k∨xs.length - 1 - m<k then xs.getD (xs.length - 1 - m) default else xs.getD m default):=by
 simp [revK,List.getElem?_map,List.getElem?_range hm]
theorem revK_0 (xs:List Tm):revK xs 0=xs:=by
 apply List.ext_getElem?
 intro m
 by_cases hm:m<xs.length
 ·rw [revK_get hm,if_neg (by omega),List.getElem?_eq_getElem hm,List.getD_eq_getElem?_getD,List.getElem?_eq_getElem hm];rfl
 ·rw [List.getElem?_eq_none (by rw [revK_len];omega),List.getElem?_eq_none (by omega)]
theorem revK_all {xs:List Tm} {k:Nat} (hk:xs.length - 1≤2 * k):revK xs k=xs.reverse:=by
 apply List.ext_getElem?
 intro m
 by_cases hm:m<xs.length
 ·rw [revK_get hm,List.getElem?_reverse hm]
  have h1:xs.length - 1 - m<xs.length:=by omega
  split
  ·rw [List.getD_eq_getElem?_getD,List.getElem?_eq_getElem h1];rfl
  ·have:xs.length - 1 - m=m:=by omega
   rw [this,List.getD_eq_getElem?_getD,List.getElem?_eq_getElem hm];rfl
 ·rw [List.getElem?_eq_none (by rw [revK_len];omega),List.getElem?_eq_none (by simp;omega)]
theorem revK_step {xs:List Tm} {k:Nat} (hk:2 * k+1<xs.length):((revK xs k).set k (xs.getD (xs.length - 1 - k) default)).set (xs.length - 1 - k) (xs.getD k default)=revK xs (k+1):=by
 apply List.ext_getElem?
 intro m
 by_cases hm:m<xs.length
 ·rw [revK_get hm,List.getElem?_set,List.getElem?_set,revK_get hm]
  simp only [List.length_set,revK_len]
  by_cases h1:xs.length - 1 - k=m
  ·rw [if_pos h1,if_pos (by omega),if_pos (by omega)]
   rw [show xs.length - 1 - m=k by omega]
  ·rw [if_neg h1]
   by_cases h2:k=m
   ·rw [if_pos h2,if_pos (by omega),if_pos (by omega),h2]
   ·rw [if_neg h2]
    by_cases h3:m<k∨xs.length - 1 - m<k
    ·rw [if_pos h3,if_pos (by omega)]
    ·rw [if_neg h3,if_neg (by omega)]
 ·rw [List.getElem?_eq_none (by simp [revK_len];omega),List.getElem?_eq_none (by rw [revK_len];omega)]
theorem revK_at {xs:List Tm} {k:Nat} (hk:2 * k+1<xs.length):(revK xs k)[k]?=some (xs.getD k default)∧(revK xs k)[xs.length - 1 - k]?=some (xs.getD (xs.length - 1 - k) default):=by
 constructor
 ·rw [revK_get (by omega),if_neg (by omega)]
 ·rw [revK_get (by omega),if_neg (by omega)]
end Go.Proofs.Ytdboloabpjmgaaa

namespace Go.Proofs.Ytdboloabpjmgaaa
open Go.RowKit Go.Proofs.YtdboloabpjmgaaaW.PrintWords Go.RegionInvYtdboloabpjmgaaa Go.RegionEYtdboloabpjmgaaa
set_option linter.unusedVariables false

section
variable {ops:Array Oper} {Q:Exit→Act→World→Prop} {R:Nat→Prop} {a:Act} {w:World} {o:Oper} {G:Value→World→(Nat→Prop)→Prop}
set_option maxRecDepth 8000 in
theorem obE_loadMid {x:Operand} {b f:Nat} {q:Pl} {t:Tm} (ho:o.op=.load 28 x) (hx:a.eval x=.pointer (some ⟨b,f,none⟩)) (hc:w.rangeAt b f (tmC q t)) (hw:Region.wanted o (yielded ops a.tmps)=true) (hG:G (tmV q t) w fun _=>False):OwesE Try.prog ops Q R G o a w:=by
 unfold OwesE;rw [if_pos hw]
 exact wp_load_mid 28 x ho b f hx (tmC q t) _ hc Try.underlying28 rfl (by kernel_rfl) ⟨_,_,rfl,hG,Chg.refl _ _,fun _ h=>h.elim⟩
set_option maxRecDepth 8000 in
theorem obE_tsPut {S:Nat→Prop} {x y:Operand} {rb j:Nat} {q q':Nat→Pl} {p:Pl} {t:Tm} {xs zs:List Tm} (ho:o.op=.store 28 x y) (hw:Region.wanted o (yielded ops a.tmps)=true) (hx:a.eval x=.pointer (some ⟨rb,j * 8,none⟩)) (hy:a.eval y=tmV p t)
  (h:TsR w rb S q xs) (hj:j<xs.length) (hS:¬ S rb) (ht:TmS w S p t) (hR:R rb) (hq:q'=fun k=>if k=j then p else q k) (hz:zs=xs.set j t):OwesE Try.prog ops Q R (fun _ w O=>TsR w rb S q' zs∧O rb) o a w:=by
 obtain ⟨h1,h2⟩:=h.set hj hS p t ht
 subst hq hz
 refine obE_store (w':=w.setCells rb (j * 8) (tmC p t)) (fun k=>k=rb) hw ?_ (h2.mono fun k e=>e ▸ hR) ⟨h1,rfl⟩ (fun k e=>.inl (e ▸ hR))
 have hs:=run_storeVar_mid (P:=Try.prog) w rb (j * 8) 28 (tmC p t).toArray (h.there hj) (by kernel_rfl) (by rw [List.all_toArray];exact tmC_one p t)
 unfold execOp
 simp only [ho,hx,hy,tmV,Instr.storeAt,Instr.sureAddr,Sem.run_bind,Sem.run_pure,Result.andThen_ok]
 exact congrArg (Result.andThen · _) hs
end

def rv_ops:List Oper:=[
 { dst:=some 14,op:=Go.Op.move (Go.Operand.tmp 0),type:=26,pos:= "slices.go:485",after:=#[],guard:=none },
 { dst:=some 15,op:=Go.Op.move (Go.Operand.tmp 2),type:=3,pos:= "slices.go:485",after:=#[],guard:=none },
 { dst:=some 16,op:=Go.Op.move (Go.Operand.tmp 0),type:=26,pos:= "slices.go:485",after:=#[{ on:=13,ground:=Go.Ground.gcOnly Go.Departure.lateStores }],guard:=none },
 { dst:=some 17,op:=Go.Op.move (Go.Operand.tmp 3),type:=3,pos:= "slices.go:485",after:=#[{ on:=13,ground:=Go.Ground.gcOnly Go.Departure.lateStores }],guard:=none },
 { dst:=some 18,op:=Go.Op.move (Go.Operand.tmp 0),type:=26,pos:= "slices.go:485",after:=#[],guard:=none },
 { dst:=some 19,op:=Go.Op.move (Go.Operand.tmp 3),type:=3,pos:= "slices.go:485",after:=#[],guard:=none },
 { dst:=some 20,op:=Go.Op.indexAddr 26 (Go.Operand.tmp 18) (Go.Operand.tmp 19),type:=0,pos:= "slices.go:485",after:=#[{ on:=4,ground:=Go.Ground.data },{ on:=5,ground:=Go.Ground.data }],guard:=none },
 { dst:=some 21,op:=Go.Op.load 28 (Go.Operand.tmp 20),type:=28,pos:= "slices.go:485",after:=#[{ on:=6,ground:=Go.Ground.data }],guard:=none },
 { dst:=some 22,op:=Go.Op.move (Go.Operand.tmp 0),type:=26,pos:= "slices.go:485",after:=#[],guard:=none },
 { dst:=some 23,op:=Go.Op.move (Go.Operand.tmp 2),type:=3,pos:= "slices.go:485",after:=#[],guard:=none },
 { dst:=some 24,op:=Go.Op.indexAddr 26 (Go.Operand.tmp 22) (Go.Operand.tmp 23),type:=0,pos:= "slices.go:485",after:=#[{ on:=8,ground:=Go.Ground.data },{ on:=9,ground:=Go.Ground.data }],guard:=none },
 { dst:=some 25,op:=Go.Op.load 28 (Go.Operand.tmp 24),type:=28,pos:= "slices.go:485",after:=#[{ on:=10,ground:=Go.Ground.data }],guard:=none },
 { dst:=some 26,op:=Go.Op.indexAddr 26 (Go.Operand.tmp 14) (Go.Operand.tmp 15),type:=0,pos:= "slices.go:485",after:=#[{ on:=0,ground:=Go.Ground.data },{ on:=1,ground:=Go.Ground.data },{ on:=0,ground:=Go.Ground.phase },{ on:=1,ground:=Go.Ground.phase },{ on:=2,ground:=Go.Ground.textOnly Go.Departure.lateStores },{ on:=3,ground:=Go.Ground.textOnly Go.Departure.lateStores },{ on:=4,ground:=Go.Ground.phase },{ on:=5,ground:=Go.Ground.phase },{ on:=6,ground:=Go.Ground.phase },{ on:=7,ground:=Go.Ground.phase },{ on:=8,ground:=Go.Ground.textOnly Go.Departure.lateStores },{ on:=9,ground:=Go.Ground.textOnly Go.Departure.lateStores },{ on:=10,ground:=Go.Ground.textOnly Go.Departure.lateStoresUnsure },{ on:=11,ground:=Go.Ground.phase }],guard:=none },
 { dst:=none,op:=Go.Op.store 28 (Go.Operand.tmp 26) (Go.Operand.tmp 21),type:=0,pos:= "slices.go:485",after:=#[{ on:=12,ground:=Go.Ground.data },{ on:=7,ground:=Go.Ground.data },{ on:=0,ground:=Go.Ground.phase },{ on:=1,ground:=Go.Ground.phase },{ on:=2,ground:=Go.Ground.textOnly Go.Departure.lateStores },{ on:=3,ground:=Go.Ground.textOnly Go.Departure.lateStores },{ on:=4,ground:=Go.Ground.phase },{ on:=5,ground:=Go.Ground.phase },{ on:=6,ground:=Go.Ground.phase },{ on:=7,ground:=Go.Ground.phase },{ on:=8,ground:=Go.Ground.textOnly Go.Departure.lateStores },{ on:=9,ground:=Go.Ground.textOnly Go.Departure.lateStores },{ on:=10,ground:=Go.Ground.textOnly Go.Departure.lateStoresUnsure },{ on:=11,ground:=Go.Ground.phase }],guard:=none },
 { dst:=some 27,op:=Go.Op.indexAddr 26 (Go.Operand.tmp 16) (Go.Operand.tmp 17),type:=0,pos:= "slices.go:485",after:=#[{ on:=2,ground:=Go.Ground.data },{ on:=3,ground:=Go.Ground.data },{ on:=0,ground:=Go.Ground.phase },{ on:=1,ground:=Go.Ground.phase },{ on:=2,ground:=Go.Ground.phase },{ on:=3,ground:=Go.Ground.phase },{ on:=4,ground:=Go.Ground.phase },{ on:=5,ground:=Go.Ground.phase },{ on:=6,ground:=Go.Ground.phase },{ on:=7,ground:=Go.Ground.phase },{ on:=8,ground:=Go.Ground.phase },{ on:=9,ground:=Go.Ground.phase },{ on:=10,ground:=Go.Ground.phase },{ on:=11,ground:=Go.Ground.phase },{ on:=12,ground:=Go.Ground.phase },{ on:=13,ground:=Go.Ground.phase }],guard:=none },
 { dst:=none,op:=Go.Op.store 28 (Go.Operand.tmp 27) (Go.Operand.tmp 25),type:=0,pos:= "slices.go:485",after:=#[{ on:=14,ground:=Go.Ground.data },{ on:=11,ground:=Go.Ground.data },{ on:=13,ground:=Go.Ground.chain },{ on:=0,ground:=Go.Ground.phase },{ on:=1,ground:=Go.Ground.phase },{ on:=2,ground:=Go.Ground.phase },{ on:=3,ground:=Go.Ground.phase },{ on:=4,ground:=Go.Ground.phase },{ on:=5,ground:=Go.Ground.phase },{ on:=6,ground:=Go.Ground.phase },{ on:=7,ground:=Go.Ground.phase },{ on:=8,ground:=Go.Ground.phase },{ on:=9,ground:=Go.Ground.phase },{ on:=10,ground:=Go.Ground.phase },{ on:=11,ground:=Go.Ground.phase },{ on:=12,ground:=Go.Ground.phase },{ on:=13,ground:=Go.Ground.phase }],guard:=none }]
def rv_F (w0:World) (rb n c i j:Nat) (S:Nat→Prop) (q:Nat→Pl) (xs:List Tm) (x y:Tm):Nat→(Nat→Value)→Value→World→(Nat→Prop)→Prop:=fun rix=>match rix with
 | 0=>fun _ v _ _=>v=.slice (some ⟨rb,0,none⟩) n c
 | 1=>fun _ v _ _=>v=.int .i64 i
 | 2=>fun _ v _ _=>v=.slice (some ⟨rb,0,none⟩) n c
 | 3=>fun _ v _ _=>v=.int .i64 j
 | 4=>fun _ v _ _=>v=.slice (some ⟨rb,0,none⟩) n c
 | 5=>fun _ v _ _=>v=.int .i64 j
 | 6=>fun _ v _ _=>v=.pointer (some ⟨rb,j * 8,none⟩)
 | 7=>fun _ v _ _=>v=tmV (q j) y
 | 8=>fun _ v _ _=>v=.slice (some ⟨rb,0,none⟩) n c
 | 9=>fun _ v _ _=>v=.int .i64 i
 | 10=>fun _ v _ _=>v=.pointer (some ⟨rb,i * 8,none⟩)
 | 11=>fun _ v _ _=>v=tmV (q i) x
 | 12=>fun _ v _ _=>v=.pointer (some ⟨rb,i * 8,none⟩)
 | 13=>fun τ v w O=>TsR w rb S (fun k=>if k=i then q j else q k) (xs.set i y)∧O rb
 | 14=>fun _ v _ _=>v=.pointer (some ⟨rb,j * 8,none⟩)
 | 15=>fun τ v w O=>TsR w rb S (fun k=>if k=j then q i else if k=i then q j else q k) ((xs.set i y).set j x)∧O rb
 | _=>fun _ _ _ _=>True
def rv_C:Nat→List Nat:=fun rix=>match rix with
 | 15=>[13]
 | _=>[]
theorem rv_nw0:nwB rv_ops.toArray 0=true:=by kernel_rfl
theorem rv_nw2:nwB rv_ops.toArray 2=true:=by kernel_rfl
theorem rv_nw3:nwB rv_ops.toArray 3=true:=by kernel_rfl
set_option maxRecDepth 100000 in
set_option maxHeartbeats 8000000 in
theorem rv_obs (w0:World) (rb n c i j:Nat) (S:Nat→Prop) (q:Nat→Pl) (xs:List Tm) (x y:Tm) (h:TsR w0 rb S q xs) (hn:xs.length=n) (hn9:n≤140737488355328) (hc:n≤c∧c≤9223372036854775807) (hi:i<n) (hj:j<n) (hij:i≠j) (hx:xs[i]?=some x) (hy:xs[j]?=some y) (hS:¬ S rb∧∀ k,S k→k<w0.heap.size) (Q:Exit→Act→World→Prop) (a0:Act) (hi0:a0.tmps.getD 0 undef=.slice (some ⟨rb,0,none⟩) n c) (hi2:a0.tmps.getD 2 undef=.int .i64 i) (hi3:a0.tmps.getD 3 undef=.int .i64 j) :
  ObsE Try.prog rv_ops.toArray Q (est2 13 0 (fun k=>k=rb) (fun _=>False)) rv_C (rv_F w0 rb n c i j S q xs x y) a0 w0 rv_ops.toArray.toList 0:=by
 have nw0:=rv_nw0
 have nw2:=rv_nw2
 have nw3:=rv_nw3
 refine ⟨?_,?_,?_,?_,?_,?_,?_,?_,?_,?_,?_,?_,?_,?_,?_,?_,trivial⟩
 ·refine ⟨⟨fun τ=>stableE_det _,leans_not⟩,?_⟩
  intro a w O hk
  have e0:a.eval (.tmp 0)=.slice (some ⟨rb,0,none⟩) n c:=(hk.init 0 (initialB_of_nw nw0)).trans hi0
  exact toE (ob_move rfl e0 (wanted_none rfl) rfl)
 ·refine ⟨⟨fun τ=>stableE_det _,leans_not⟩,?_⟩
  intro a w O hk
  have e2:a.eval (.tmp 2)=.int .i64 i:=(hk.init 2 (initialB_of_nw nw2)).trans hi2
  exact toE (ob_move rfl e2 (wanted_none rfl) rfl)
 ·refine ⟨⟨fun τ=>stableE_det _,leans_not⟩,?_⟩
  intro a w O hk
  have e0:a.eval (.tmp 0)=.slice (some ⟨rb,0,none⟩) n c:=(hk.init 0 (initialB_of_nw nw0)).trans hi0
  exact toE (ob_move rfl e0 (wanted_none rfl) rfl)
 ·refine ⟨⟨fun τ=>stableE_det _,leans_not⟩,?_⟩
  intro a w O hk
  have e3:a.eval (.tmp 3)=.int .i64 j:=(hk.init 3 (initialB_of_nw nw3)).trans hi3
  exact toE (ob_move rfl e3 (wanted_none rfl) rfl)
 ·refine ⟨⟨fun τ=>stableE_det _,leans_not⟩,?_⟩
  intro a w O hk
  have e0:a.eval (.tmp 0)=.slice (some ⟨rb,0,none⟩) n c:=(hk.init 0 (initialB_of_nw nw0)).trans hi0
  exact toE (ob_move rfl e0 (wanted_none rfl) rfl)
 ·refine ⟨⟨fun τ=>stableE_det _,leans_not⟩,?_⟩
  intro a w O hk
  have e3:a.eval (.tmp 3)=.int .i64 j:=(hk.init 3 (initialB_of_nw nw3)).trans hi3
  exact toE (ob_move rfl e3 (wanted_none rfl) rfl)
 ·refine ⟨⟨fun τ=>stableE_det _,leans_not⟩,?_⟩
  intro a w O hk
  have e18:a.eval (.tmp 18)=.slice (some ⟨rb,0,none⟩) n c:=hk.fact 4 _ 18 rfl rfl rfl rfl
  have e19:a.eval (.tmp 19)=.int .i64 j:=hk.fact 5 _ 19 rfl rfl rfl rfl
  exact obE_run (wanted_none rfl) (by unfold execOp;simp only [];rw [e18,e19];go_simp) rfl
 ·refine ⟨⟨fun τ=>stableE_det _,leans_not⟩,?_⟩
  intro a w O hk
  have e20:a.eval (.tmp 20)=.pointer (some ⟨rb,j * 8,none⟩):=hk.fact 6 _ 20 rfl rfl rfl rfl
  have hr:=h.same (w':=w) (hk.est 13 _ rfl (.inr rfl) rb (.inl ⟨rfl,rfl⟩)) (fun k hk' hz=>hk.fix k (est2_fix hz (fun e=>hS.1 (e ▸ hk')) (fun e=>e.elim)))
  exact obE_loadMid rfl e20 (hr.cells j y hy) (wanted_none rfl) rfl
 ·refine ⟨⟨fun τ=>stableE_det _,leans_not⟩,?_⟩
  intro a w O hk
  have e0:a.eval (.tmp 0)=.slice (some ⟨rb,0,none⟩) n c:=(hk.init 0 (initialB_of_nw nw0)).trans hi0
  exact toE (ob_move rfl e0 (wanted_none rfl) rfl)
 ·refine ⟨⟨fun τ=>stableE_det _,leans_not⟩,?_⟩
  intro a w O hk
  have e2:a.eval (.tmp 2)=.int .i64 i:=(hk.init 2 (initialB_of_nw nw2)).trans hi2
  exact toE (ob_move rfl e2 (wanted_none rfl) rfl)
 ·refine ⟨⟨fun τ=>stableE_det _,leans_not⟩,?_⟩
  intro a w O hk
  have e22:a.eval (.tmp 22)=.slice (some ⟨rb,0,none⟩) n c:=hk.fact 8 _ 22 rfl rfl rfl rfl
  have e23:a.eval (.tmp 23)=.int .i64 i:=hk.fact 9 _ 23 rfl rfl rfl rfl
  exact obE_run (wanted_none rfl) (by unfold execOp;simp only [];rw [e22,e23];go_simp) rfl
 ·refine ⟨⟨fun τ=>stableE_det _,leans_not⟩,?_⟩
  intro a w O hk
  have e24:a.eval (.tmp 24)=.pointer (some ⟨rb,i * 8,none⟩):=hk.fact 10 _ 24 rfl rfl rfl rfl
  have hr:=h.same (w':=w) (hk.est 13 _ rfl (.inr rfl) rb (.inl ⟨rfl,rfl⟩)) (fun k hk' hz=>hk.fix k (est2_fix hz (fun e=>hS.1 (e ▸ hk')) (fun e=>e.elim)))
  exact obE_loadMid rfl e24 (hr.cells i x hx) (wanted_none rfl) rfl
 ·refine ⟨⟨fun τ=>stableE_det _,leans_not⟩,?_⟩
  intro a w O hk
  have e14:a.eval (.tmp 14)=.slice (some ⟨rb,0,none⟩) n c:=hk.fact 0 _ 14 rfl rfl rfl rfl
  have e15:a.eval (.tmp 15)=.int .i64 i:=hk.fact 1 _ 15 rfl rfl rfl rfl
  exact obE_run (wanted_none rfl) (by unfold execOp;simp only [];rw [e14,e15];go_simp) rfl
 ·refine ⟨⟨fun τ=>(fun v w w' O h hz hk=>⟨h.1.same (hk rb h.1.lt (.inr h.2)) (fun k hs hk'=>hk k hk' (.inl (est2_fix (hS.2 k hs) (fun e=>hS.1 (e ▸ hs)) (fun e=>e.elim)))),h.2⟩),leans_not⟩,?_⟩
  intro a w O hk
  have e26:a.eval (.tmp 26)=.pointer (some ⟨rb,i * 8,none⟩):=hk.fact 12 _ 26 rfl rfl rfl rfl
  have e21:a.eval (.tmp 21)=tmV (q j) y:=hk.fact 7 _ 21 rfl rfl rfl rfl
  have hr:=h.same (w':=w) (hk.est 13 _ rfl (.inl rfl) rb (.inl ⟨rfl,rfl⟩)) (fun k hk' hz=>hk.fix k (est2_fix hz (fun e=>hS.1 (e ▸ hk')) (fun e=>e.elim)))
  exact obE_tsPut rfl (wanted_none rfl) e26 e21 hr (by omega) hS.1 (hr.tms j y hy) (.inr (.inl ⟨rfl,rfl⟩)) rfl rfl
 ·refine ⟨⟨fun τ=>stableE_det _,leans_not⟩,?_⟩
  intro a w O hk
  have e16:a.eval (.tmp 16)=.slice (some ⟨rb,0,none⟩) n c:=hk.fact 2 _ 16 rfl rfl rfl rfl
  have e17:a.eval (.tmp 17)=.int .i64 j:=hk.fact 3 _ 17 rfl rfl rfl rfl
  exact obE_run (wanted_none rfl) (by unfold execOp;simp only [];rw [e16,e17];go_simp) rfl
 ·refine ⟨⟨fun τ=>(fun v w w' O h hz hk=>⟨h.1.same (hk rb h.1.lt (.inr h.2)) (fun k hs hk'=>hk k hk' (.inl (est2_fix (hS.2 k hs) (fun e=>hS.1 (e ▸ hs)) (fun e=>e.elim)))),h.2⟩),leans_not⟩,?_⟩
  intro a w O hk
  have e27:a.eval (.tmp 27)=.pointer (some ⟨rb,j * 8,none⟩):=hk.fact 14 _ 27 rfl rfl rfl rfl
  have e25:a.eval (.tmp 25)=tmV (q i) x:=hk.fact 11 _ 25 rfl rfl rfl rfl
  obtain ⟨v13,hr,ho⟩:=hk.nofact 13 _ rfl rfl rfl rfl
  exact obE_tsPut rfl (wanted_none rfl) e27 e25 hr (by rw [List.length_set];omega) hS.1 (by have:=hr.tms i y (by rw [List.getElem?_set,if_pos rfl,if_pos (by omega)]);exact (h.tms i x hx).same fun k hk' hz=>hk.fix k (est2_fix hz (fun e=>hS.1 (e ▸ hk')) (fun e=>e.elim))) (.inl ⟨13,by simp [rv_C],ho⟩) rfl rfl
set_option maxRecDepth 100000 in
set_option maxHeartbeats 8000000 in
theorem rv_region {Q:Exit→Act→World→Prop} {id:Nat} (w0:World) (rb n c i j:Nat) (S:Nat→Prop) (q:Nat→Pl) (xs:List Tm) (x y:Tm) {s1 s4 s5 s6 s7 s8 s9 s10 s11 s12 s13 s14 s15 s16 s17 s18 s19 s20 s21 s22 s23 s24 s25 s26 s27:Value} (h:TsR w0 rb S q xs) (hn:xs.length=n) (hn9:n≤140737488355328) (hc:n≤c∧c≤9223372036854775807) (hi:i<n) (hj:j<n) (hij:i≠j) (hx:xs[i]?=some x) (hy:xs[j]?=some y) (hS:¬ S rb∧∀ k,S k→k<w0.heap.size)
  (hend:∀ (w':World) (v15:Value) (O15:Nat→Prop),Chg (fun k=>(fun k=>k=rb) k∨(fun _=>False) k) w0 w'→(TsR w' rb S (fun k=>if k=j then q i else if k=i then q j else q k) ((xs.set i y).set j x)∧O15 rb)→(∀ k,O15 k→k<w'.heap.size∧¬ Fix w0 (est2 13 0 (fun k=>k=rb) (fun _=>False)) k)→Q .normal { tmps:=((.slice (some ⟨rb,0,none⟩) n c) :: s1 :: (.int .i64 i) :: (.int .i64 j) :: s4 :: s5 :: s6 :: s7 :: s8 :: s9 :: s10 :: s11 :: s12 :: s13 :: (.slice (some ⟨rb,0,none⟩) n c) :: (.int .i64 i) :: (.slice (some ⟨rb,0,none⟩) n c) :: (.int .i64 j) :: (.slice (some ⟨rb,0,none⟩) n c) :: (.int .i64 j) :: (.pointer (some ⟨rb,j * 8,none⟩)) :: (tmV (q j) y) :: (.slice (some ⟨rb,0,none⟩) n c) :: (.int .i64 i) :: (.pointer (some ⟨rb,i * 8,none⟩)) :: (tmV (q i) x) :: (.pointer (some ⟨rb,i * 8,none⟩)) :: (.pointer (some ⟨rb,j * 8,none⟩)) :: []:List Value).toArray,defers:=[] } w') :
  (Code.region id rv_ops.toArray true).wp Try.prog Q { tmps:=((.slice (some ⟨rb,0,none⟩) n c) :: s1 :: (.int .i64 i) :: (.int .i64 j) :: s4 :: s5 :: s6 :: s7 :: s8 :: s9 :: s10 :: s11 :: s12 :: s13 :: s14 :: s15 :: s16 :: s17 :: s18 :: s19 :: s20 :: s21 :: s22 :: s23 :: s24 :: s25 :: s26 :: s27 :: []:List Value).toArray,defers:=[] } w0:=by
 refine wp_region_est (by kernel_rfl) (est2 13 0 (fun k=>k=rb) (fun _=>False)) rv_C (rv_F w0 rb n c i j S q xs x y) (est2_dis (fun _ _ h=>h)) (est2_range (fun k hk=>hk ▸ h.lt) (fun _ h=>h.elim)) (by rfl) (by kernel_rfl) (rv_obs w0.drew rb n c i j S q xs x y (h.same rfl fun _ _ _=>rfl) hn hn9 hc hi hj hij hx hy hS _ _ rfl rfl rfl) ?_
 intro a w' O hd hs hb hf hf2 ha hsame
 have hl:=slots_eq (ops:=rv_ops.toArray) [(14,.slice (some ⟨rb,0,none⟩) n c),(15,.int .i64 i),(16,.slice (some ⟨rb,0,none⟩) n c),(17,.int .i64 j),(18,.slice (some ⟨rb,0,none⟩) n c),(19,.int .i64 j),(20,.pointer (some ⟨rb,j * 8,none⟩)),(21,tmV (q j) y),(22,.slice (some ⟨rb,0,none⟩) n c),(23,.int .i64 i),(24,.pointer (some ⟨rb,i * 8,none⟩)),(25,tmV (q i) x),(26,.pointer (some ⟨rb,i * 8,none⟩)),(27,.pointer (some ⟨rb,j * 8,none⟩))] (show a.tmps.size=28 from hs) (fun i h=>hsame i h) ⟨(hf 0 _ 14 rfl rfl (by decide)).1,(hf 1 _ 15 rfl rfl (by decide)).1,(hf 2 _ 16 rfl rfl (by decide)).1,(hf 3 _ 17 rfl rfl (by decide)).1,(hf 4 _ 18 rfl rfl (by decide)).1,(hf 5 _ 19 rfl rfl (by decide)).1,(hf 6 _ 20 rfl rfl (by decide)).1,(hf 7 _ 21 rfl rfl (by decide)).1,(hf 8 _ 22 rfl rfl (by decide)).1,(hf 9 _ 23 rfl rfl (by decide)).1,(hf 10 _ 24 rfl rfl (by decide)).1,(hf 11 _ 25 rfl rfl (by decide)).1,(hf 12 _ 26 rfl rfl (by decide)).1,(hf 14 _ 27 rfl rfl (by decide)).1,trivial⟩ (by kernel_rfl)
 obtain ⟨tmps,defers⟩:=a
 obtain rfl:defers=[]:=hd
 have hl':tmps=_:=hl
 rw [hl']
 obtain ⟨⟨v15,hv15⟩,ho15⟩:=hf2 15 _ rfl rfl (by decide)
 have hb':=est2_chg hb
 refine Eq.mp ?_ (hend w' v15 (O 15) ⟨hb'.os,hb'.tape,hb'.output,hb'.size,hb'.block⟩ hv15 ho15)
 kernel_rfl

theorem results_nil0 {fn:Func} (h:fn.results = #[]) (tmps:Array Value) (P:Program) (w:World):(results fn tmps).run P w=.ok (.tuple #[]) w:=by simp [results,h]
theorem rev_none (A:Option Addr) (c:Nat) (w:World):Calls Try.prog 76 #[.slice A 0 c] w fun e w'=>e=.returned (.tuple #[])∧Below w.heap.size w w':=by
 go_enter Try.func76,Try.ntmps76
 go_wp2
 go_loopw [2,3] (fun i j wr=>i=.int .i64 0∧j=.int .i64 (-1)∧wr=w) (fun _ _ _=>0)
 case atStart=>exact ⟨rfl,rfl,rfl⟩
 case round =>
  obtain ⟨rfl,rfl,rfl⟩:=hrel
  go_wp2
  exact bodyPost_end (results_nil0 rfl _ _ _) rfl ⟨rfl,Below.refl _ _⟩
set_option maxRecDepth 100000 in
set_option maxHeartbeats 4000000 in
theorem rev_calls (rb n c:Nat) (S:Nat→Prop) (q:Nat→Pl) (xs:List Tm) (w:World) (h:TsR w rb S q xs) (hn:xs.length=n) (h1:1≤n) (hn9:n≤140737488355328) (hc:n≤c∧c≤9223372036854775807) (hS:¬ S rb∧∀ k,S k→k<w.heap.size) :
  Calls Try.prog 76 #[.slice (some ⟨rb,0,none⟩) n c] w fun e w'=>e=.returned (.tuple #[])∧(∃ q',TsR w' rb S q' xs.reverse)∧Chg (fun k=>k=rb) w w':=by
 have H:=Ak h
 have HN:=Ak hn
 have HSS:=Ak hS
 have hw1:wrap64 ((n:Int) - 1)=(n:Int) - 1:=by unfold wrap64;omega
 have hrz:=h.lt
 clear h hn hS
 go_enter Try.func76,Try.ntmps76
 go_wp2
 go_loopw [2,3] (fun i j wr=>∃ (k m:Nat),i=.int .i64 k∧j=.int .i64 m∧k+m+1=n∧k≤m+1∧Aside0 (∃ q',TsR wr rb S q' (revK xs k))∧Aside0 (Chg (fun k=>k=rb) w wr)) (fun i _ _=>n - (intOf i).toNat)
 case atStart=>exact ⟨0,n - 1,rfl,by congr 1;omega,by omega,by omega,⟨⟨q,by rw [revK_0];exact H.out⟩⟩,⟨Chg.refl _ _⟩⟩
 case round =>
  obtain ⟨k,m,rfl,rfl,hkm,hle,HR,HC⟩:=hrel
  by_cases hlt:k<m
  ·have hm':xs.length - 1 - k=m:=by have:=HN.out;omega
   have HAT:=Ak (revK_at (xs:=xs) (k:=k) (by have:=HN.out;omega))
   have HST:=Ak (revK_step (xs:=xs) (k:=k) (by have:=HN.out;omega))
   have HHM:=Ak hm'
   rw [hm'] at HAT HST
   obtain ⟨x,hx⟩:∃ x,xs.getD k default=x:=⟨_,rfl⟩
   obtain ⟨y,hy⟩:∃ y,xs.getD m default=y:=⟨_,rfl⟩
   rw [hx,hy] at HAT HST
   have HLN:=Ak (show (revK xs k).length=n by rw [revK_len,HN.out])
   clear hm' hx hy
   go_upto_block 1 with (fail)
   go_cut [] (fun w5=>Aside0 (∃ q',TsR w5 rb S q' (revK xs (k+1)))∧Aside0 (Chg (fun k=>k=rb) w w5))
   case first =>
    obtain ⟨q',hq'⟩:=HR.out
    go_upto_region 3 with (fail)
    refine rv_region wr rb n c k m S q' (revK xs k) x y hq' HLN.out hn9 hc (by omega) (by omega) (by omega) HAT.out.1 HAT.out.2 ⟨HSS.out.1,fun j hj=>Nat.lt_of_lt_of_le (HSS.out.2 j hj) HC.out.size⟩ ?_
    intros
    rename_i hch h15 _
    rw [HST.out] at h15
    have HF:=Ak h15.1
    have HCH:=Ak hch
    clear h15 hch
    go_wp2
    go_meet
    case rel=>exact ⟨⟨_,HF.out⟩,⟨chg_trans HC.out (HCH.out.mono fun j e=>e.elim id False.elim)⟩⟩
   case rest =>
    clear HR HC
    obtain ⟨HR,HC⟩:=hcut
    go_wp2
    go_roundw
    case rel=>exact ⟨k+1,m - 1,by go_num,by congr 1;omega,by omega,by omega,HR,HC⟩
    case measure=>(simp [intOf];try omega)
  ·have HFI:=Ak (revK_all (xs:=xs) (k:=k) (by have:=HN.out;omega))
   have hlt':decide ((k:Int)<(m:Int))=false:=by simp;omega
   go_wp2
   rw [HFI.out] at HR
   exact bodyPost_end (results_nil0 rfl _ _ _) rfl ⟨rfl,HR.out,HC.out⟩

end Go.Proofs.Ytdboloabpjmgaaa

namespace Go.Proofs.Ytdboloabpjmgaaa
open Go.RowKit Go.Proofs.YtdboloabpjmgaaaW.PrintWords Go.RegionInvYtdboloabpjmgaaa Go.RegionEYtdboloabpjmgaaa

def kidD (t:Tm) (i:Nat):Tm:=t.kids.getD i default
theorem app_two {t:Tm} (h:t.kind=6∧nK t≠0):nK t=2:=by
 have h1:(nK t:Int)=arZ t.kind:=by
  have h2:=h.2
  unfold nK at h2 ⊢
  split at h2
  ·exact absurd rfl h2
  ·rename_i hh
   rw [if_neg hh]
   have:=arZ_in t.kind
   omega
 rw [h.1] at h1
 have:arZ 6=2:=rfl
 omega
theorem kidD_eq {t:Tm} {i:Nat} (h:i<nK t):kidD t i=kidF t ⟨i,h⟩:=by
 unfold kidD
 rw [List.getD_eq_getElem?_getD,kidF_get t ⟨i,h⟩]
 rfl
theorem app_kid {t:Tm} (h:t.kind=6∧nK t≠0) {i:Nat} (hi:i<2):t.kids[i]?=some (kidD t i)∧SizeOf.sizeOf (kidD t i)<SizeOf.sizeOf t∧depthT (kidD t i)+1≤depthT t∧sizeT (kidD t i)+1≤sizeT t:=by
 have h2:i<nK t:=by rw [app_two h];exact hi
 rw [kidD_eq h2]
 refine ⟨kidF_get t ⟨i,h2⟩,kidF_lt t ⟨i,h2⟩,?_,?_⟩
 ·have:=depth_kid t ⟨i,h2⟩;omega
 ·exact size_kid t ⟨i,h2⟩
def spH (t:Tm):Tm:=if h:t.kind=6∧nK t≠0 then spH (kidD t 0) else t
termination_by SizeOf.sizeOf t
decreasing_by exact (app_kid h (by decide)).2.1
def spA (t:Tm):List Tm:=if h:t.kind=6∧nK t≠0 then spA (kidD t 0) ++ [kidD t 1] else []
termination_by SizeOf.sizeOf t
decreasing_by exact (app_kid h (by decide)).2.1
theorem spH_app {t:Tm} (h:t.kind=6∧nK t≠0):spH t=spH (kidD t 0):=by rw [spH,dif_pos h]
theorem spA_app {t:Tm} (h:t.kind=6∧nK t≠0):spA t=spA (kidD t 0) ++ [kidD t 1]:=by rw [spA,dif_pos h]
theorem spH_end {t:Tm} (h:¬ (t.kind=6∧nK t≠0)):spH t=t:=by rw [spH,dif_neg h]
theorem spA_end {t:Tm} (h:¬ (t.kind=6∧nK t≠0)):spA t=[]:=by rw [spA,dif_neg h]
def TmsS (w:World) (S:Nat→Prop) (A:Option Addr) (q:Nat→Pl) (xs:List Tm):Prop:=∀ (i:Nat) (x:Tm),xs[i]?=some x→KidAt w S A i (q i) x∧TmS w S (q i) x
theorem TmsS.nil (w:World) (S:Nat→Prop) (A:Option Addr) (q:Nat→Pl):TmsS w S A q []:=fun i x h=>by simp at h
theorem TmsS.same {w w':World} {S:Nat→Prop} {A:Option Addr} {q:Nat→Pl} {xs:List Tm} (h:TmsS w S A q xs) (hs:∀ k,S k→k<w.heap.size→w'.heap[k]?=w.heap[k]?):TmsS w' S A q xs:=
 fun i x hx=>⟨(h i x hx).1.same hs,(h i x hx).2.same hs⟩
theorem TmsS.mono {w:World} {S S':Nat→Prop} {A:Option Addr} {q:Nat→Pl} {xs:List Tm} (h:TmsS w S A q xs) (hs:∀ k,S k→k<w.heap.size→S' k):TmsS w S' A q xs:=
 fun i x hx=>⟨(h i x hx).1.mono hs,(h i x hx).2.mono hs⟩
theorem TsR.tmss {w:World} {rb:Nat} {S S':Nat→Prop} {q:Nat→Pl} {xs:List Tm} (h:TsR w rb S q xs) (hS:∀ k,S k→S' k) (hr:S' rb):TmsS w S' (some ⟨rb,0,none⟩) q xs:=
 fun i x hx=>⟨⟨rb,0,rfl,hr,fun j v hv=>by rw [Nat.zero_add];exact h.cells i x hx j v hv⟩,(h.tms i x hx).mono fun k hk _=>hS k hk⟩
def SpGot (w:World) (S:Nat→Prop) (h:Tm) (xs:List Tm) (e:Ending) (w':World):Prop:=∃ p A n c q,e=.returned (.tuple #[tmV p h,.slice A n c])∧n=xs.length∧TmS w' (fun k=>S k∨w.heap.size≤k) p h∧TmsS w' (fun k=>S k∨w.heap.size≤k) A q xs∧Below w.heap.size w w'
def slN:Value→Nat
 | .slice _ n _=>n
 | _=>0
theorem KidsT.row {w:World} {S:Nat→Prop} {lo g n c:Nat} {xs:List Tm} (h:KidsT w S lo (.slice (some ⟨g,0,none⟩) n c) xs):lo≤g∧g<w.heap.size∧∃ q,TsR w g (fun k=>S k∨(lo≤k∧k≠g)) q xs:=by
 obtain ⟨cells,q,ho,hk⟩:=h
 have hlo:=own_base ho g rfl
 have hlt:=own_lt ho g rfl
 obtain ⟨hlen,h1 | ⟨g',cap',cur,e1,hbg,hcur,hn,hm',hsz,htk⟩⟩:=ho
 ·exact absurd h1.1 (by simp)
 ·obtain rfl:g=g':=by simp only [Value.slice.injEq,Option.some.injEq,Addr.mk.injEq] at e1;exact e1.1.1
  refine ⟨hlo,hlt,q,⟨cur,hcur,by rw [hsz];exact Nat.mul_le_mul_right 8 hn⟩,fun i x hx j v hv=>?_,fun i x hx=>(hk i x hx).2.mono fun k hs _=>hs.imp id fun h=>⟨h.1,fun e=>h.2 (by rw [e];rfl)⟩⟩
  have:=(hk i x hx).1 j v hv
  rw [← htk,List.getElem?_take] at this
  split at this
  ·rw [cell_of_row _ _ _ _ _ _ hcur,← Array.getElem?_toList];exact this
  ·simp at this
theorem KidsT.len {w:World} {S:Nat→Prop} {lo:Nat} {V:Value} {xs:List Tm} (h:KidsT w S lo V xs):∃ A c,V=.slice A xs.length c∧xs.length≤c∧c≤9223372036854775807∧(xs≠[]→∃ g,A=some ⟨g,0,none⟩):=by
 obtain ⟨cells,q,ho,hk⟩:=h
 obtain ⟨K,e,rfl⟩:=own_slice ho
 refine ⟨K,e,rfl,own_cap ho,own_max ho,fun hne=>?_⟩
 have hpos:0<xs.length:=by cases xs with
  | nil=>exact absurd rfl hne
  | cons x r=>simp
 obtain ⟨g,cap,hv,hb,_⟩:=ho.form hpos
 simp only [Value.slice.injEq] at hv
 exact ⟨g,hv.1⟩
end Go.Proofs.Ytdboloabpjmgaaa

namespace Go.Proofs.Ytdboloabpjmgaaa
open Go.RowKit Go.Proofs.YtdboloabpjmgaaaW.PrintWords Go.RegionInvYtdboloabpjmgaaa Go.RegionEYtdboloabpjmgaaa

structure SpB (w wr:World) (S:Nat→Prop) (t:Tm) (p':Pl) (t':Tm):Prop where
 box:wr.heap[w.heap.size]?=some (tmO p' t')
 tm:TmS wr S p' t'
 res:wr.heap[w.heap.size+1]?=some (outK 0 (.slice none 0 0))
 bel:Below w.heap.size w wr
 hd:spH t'=spH t
theorem SpB.later {w wr W:World} {S:Nat→Prop} {t:Tm} {p':Pl} {t':Tm} (h:SpB w wr S t p' t') (hS:∀ k,S k→k<w.heap.size) (hb:Below wr.heap.size wr W):SpB w W S t p' t':=
 ⟨(hb.block _ (blk_lt h.box)).trans h.box,h.tm.later hb,(hb.block _ (blk_lt h.res)).trans h.res,below_then h.bel h.bel.size hb,h.hd⟩
theorem SpB.grown {w wr W:World} {S:Nat→Prop} {t:Tm} {p':Pl} {t':Tm} {row:Option Nat} (h:SpB w wr S t p' t') (hS:∀ k,S k→k<w.heap.size) (hg:wr.grownBy W row) (hr:∀ k,row=some k→w.heap.size+2≤k):SpB w W S t p' t':=
 ⟨(hg.block _ (blk_lt h.box) (fun e=>by have:=hr _ e.symm;omega)).trans h.box,h.tm.same fun k hk hz=>hg.block k hz (fun e=>by have:=hr _ e.symm;have:=hS k hk;omega),(hg.block _ (blk_lt h.res) (fun e=>by have:=hr _ e.symm;omega)).trans h.res,
  ⟨hg.os.trans h.bel.os,hg.tape.trans h.bel.tape,hg.output.trans h.bel.output,Nat.le_trans h.bel.size hg.size,fun k hk=>(hg.block k (by have:=h.bel.size;omega) (fun e=>by have:=hr _ e.symm;omega)).trans (h.bel.block k hk)⟩,h.hd⟩
theorem revS_calls (S:Nat→Prop) (lo:Nat) (V:Value) (xs:List Tm) (w:World) (h:KidsT w S lo V xs) (hS:∀ k,S k→k<lo) (hlo:lo≤w.heap.size) (hl:xs.length≤1000000) :
  Calls Try.prog 76 #[V] w fun e w'=>e=.returned (.tuple #[])∧Below lo w w'∧∃ A c q',V=.slice A xs.length c∧TmsS w' (fun k=>S k∨lo≤k) A q' xs.reverse:=by
 obtain ⟨A,c,rfl,hc,hm,hne⟩:=h.len
 by_cases h0:xs=[]
 ·subst h0
  exact (rev_none A c w).mono fun e w' h=>⟨h.1,h.2.mono hlo,A,c,fun _=>default,rfl,TmsS.nil _ _ _ _⟩
 ·obtain ⟨g,rfl⟩:=hne h0
  obtain ⟨hg,hgz,q,hr⟩:=h.row
  have hpos:1≤xs.length:=by cases xs with
   | nil=>exact absurd rfl h0
   | cons x r=>simp
  have hr2:TsR w g (fun k=>(S k∨(lo≤k∧k≠g))∧k<w.heap.size) q xs:=hr.mono fun k hk hz=>⟨hk,hz⟩
  refine (rev_calls g xs.length c _ q xs w hr2 rfl hpos (by omega) ⟨hc,hm⟩ ⟨fun h=>h.1.elim (fun h=>by have:=hS g h;omega) fun h=>h.2 rfl,fun k hk=>hk.2⟩).mono ?_
  rintro e w' ⟨he,⟨q',hq'⟩,hch⟩
  exact ⟨he,⟨hch.os,hch.tape,hch.output,hch.size,fun k hk=>hch.block k (by omega) (by omega)⟩,_,c,q',rfl,hq'.tmss (fun k hk=>hk.1.imp id And.left) (.inr hg)⟩
set_option maxRecDepth 100000 in
set_option maxHeartbeats 8000000 in
theorem spine_calls (S:Nat→Prop) (g0:Nat) (hS:∀ k,S k→k<g0) (t:Tm) (p:Pl) (w:World) (hok:okT t) (hg0:g0≤w.heap.size) (hin:TmS w S p t) :
  Calls Try.prog 34 #[tmV p t] w (SpGot w S (ownT (spH t)) ((spA t).map ownT)):=by
 obtain ⟨W,hW⟩:∃ W,W=(w.alloc (tmO p t)).alloc (outK 0 (.slice none 0 0)):=⟨_,rfl⟩
 have hb:Below w.heap.size w W:=by rw [hW];exact below_alloc (below_alloc (Below.refl _ _) _) _
 have HX:=Ak (show W.heap[w.heap.size]?=some (tmO p t) by rw [hW];exact box0 w _ _)
 have HX1:=Ak (show W.heap[w.heap.size+1]?=some (outK 0 (.slice none 0 0)) by rw [hW];exact box1 w _ _)
 have HZ:=Ak (show W.heap.size=w.heap.size+2 by rw [hW];simp)
 have HB:=Ak hb
 have HIN:=Ak (TmS.stay hin hS (hb.mono hg0))
 have HSS:=Ak hS
 have HSW:=Ak (show ∀ k,S k→k<w.heap.size from fun k h=>Nat.lt_of_lt_of_le (hS k h) hg0)
 have HG:=Ak (show greatB t=false by rw [great_eq];simp [hok])
 have HDP:=Ak hok.2
 have HT0:=Ak (rfl:t=t)
 clear hin hb hS hok
 unfold tmV
 unfold tmO at hW
 go_enter Try.func34,Try.ntmps34
 go_upto_region 1 with (fail)
 rw [← hW]
 clear hW
 go_upto_region 3 with (first
  | (refine wpList_load_row rfl 28 _ rfl (w.heap.size) rfl 28 _ (0,0) _ HX.out Try.underlying28 rfl (by kernel_rfl) ?_)
  | (go_at_call 55;go_must (refine (great_calls t p W (TmS.all HIN.out)).mono ?_;rintro e w2 ⟨rfl,hb⟩;rw [HG.out];have HST0:=Ak (show SpB w w2 S t p t from ⟨(hb.block _ (blk_lt HX.out)).trans HX.out,TmS.stay HIN.out HSS.out (hb.mono (Nat.le_trans hg0 HB.out.size)),(hb.block _ (blk_lt HX1.out)).trans HX1.out,below_then HB.out HB.out.size hb,rfl⟩);have HZ2:=Ak (show w.heap.size+2≤w2.heap.size by have:=hb.size;have:=HZ.out;omega);clear hb)))
 clear HX HX1 HIN HB HZ HG
 go_upto_block 0 with (fail)
 go_cut [4] (fun V wr=>∃ (p':Pl) (L:List Tm),Aside0 (SpB w wr S t p' (spH t))∧Aside0 (L.reverse=spA t)∧L.length≤2000∧Aside0 (KidsT wr S (w.heap.size+2) V (L.map ownT))∧w.heap.size+2≤wr.heap.size)
 case first =>
  go_wp2
  go_loopw [4] (fun V wr=>∃ (t':Tm) (p':Pl) (L:List Tm),Aside0 (spA t' ++ L.reverse=spA t)∧Aside0 (SpB w wr S t p' t')∧Aside0 (L.length+depthT t'≤depthT t)∧Aside0 (KidsT wr S (w.heap.size+2) V (L.map ownT))∧w.heap.size+2≤wr.heap.size) (fun V _=>2001 - slN V)
  case atStart=>exact ⟨t,p,[],⟨by simp⟩,HST0,⟨by simp⟩,⟨KidsT.nil _ _ _⟩,HZ2.out⟩
  case round =>
   clear HST0 HZ2
   obtain ⟨t',p',L,HA,HST,HD,HK,hzw⟩:=hrel
   obtain ⟨AV,cV,rfl,hnc,-,-⟩:=HK.out.len
   obtain ⟨nV,hnV⟩:∃ n,(L.map ownT).length=n:=⟨_,rfl⟩
   rw [hnV] at HK hnc ⊢
   have HNV:=Ak hnV
   clear hnV
   obtain ⟨c0,c1,c2,c3,c4,c5,c6,c7⟩:=row8 HST.out.box
   have hkl:=HST.out.tm.len
   have hll:=HST.out.tm.lv.len
   have hln:=HST.out.tm.ls.len
   by_cases hk:t'.kind=6
   ·have b6:(t'.kind == 6)=true:=by simp [hk]
    have HKK:=Ak hk
    clear hk
    by_cases h0:nK t'=0
    ·have HLF:=Ak (show leafT t'=true from decide_eq_true h0)
     have HNO:=Ak (show ¬ (t'.kind=6∧nK t'≠0) from fun h=>h.2 h0)
     clear h0
     go_wp2_with (go_at_call 75;go_must (refine (leaf_calls t' p' _).mono ?_;rintro e w3 ⟨rfl,hb⟩;rw [HLF.out];have HST3:=Ak (HST.out.later HSW.out hb);have HK3:=Ak (HK.out.later hb);have hz3:=hb.size;clear hb))
     go_meet
     case rel =>
      have hE:=spH_end HNO.out
      have hEA:=spA_end HNO.out
      have hA:=HA.out
      rw [hEA,List.nil_append] at hA
      have hst:=HST3.out
      refine ⟨p',L,⟨?_⟩,⟨hA⟩,?_,HK3,by omega⟩
      ·have hh:=hst.hd
       rw [hE] at hh
       rw [← hh]
       exact hst
      ·have:=HD.out;have:=HDP.out;omega
    ·have HLF:=Ak (show leafT t'=false from decide_eq_false h0)
     have HAP:=Ak (show t'.kind=6∧nK t'≠0 from ⟨HKK.out,h0⟩)
     clear h0
     go_upto_if 15 with (go_at_call 75;go_must (refine (leaf_calls t' p' _).mono ?_;rintro e w3 ⟨rfl,hb⟩;rw [HLF.out];have HST3:=Ak (HST.out.later HSW.out hb);have HK3:=Ak (HK.out.later hb);have hz3:=hb.size;clear hb))
     obtain ⟨k0,z0,-,-⟩:=app_kid HAP.out (i:=0) (by decide)
     obtain ⟨k1,z1,-,-⟩:=app_kid HAP.out (i:=1) (by decide)
     have HD0:=Ak ((app_kid HAP.out (i:=0) (by decide)).2.2.1)
     have HE0:=Ak (spH_app HAP.out)
     have HEA:=Ak (spA_app HAP.out)
     obtain ⟨x0,hx0⟩:∃ x,kidD t' 0=x:=⟨_,rfl⟩
     obtain ⟨x1,hx1⟩:∃ x,kidD t' 1=x:=⟨_,rfl⟩
     rw [hx0] at k0 HD0 HE0 HEA
     rw [hx1] at k1 HEA
     have h2l:2≤t'.kids.length:=by have:=(List.getElem?_eq_some_iff.1 k1).1;omega
     obtain ⟨m,hm⟩:∃ m,t'.kids.length=m:=⟨_,rfl⟩
     rw [hm] at c7 hkl h2l
     have HMM:=Ak hm
     have HK0:=Ak k0
     have HK1:=Ak k1
     clear hm hx0 hx1 k0 k1 z0 z1
     obtain ⟨qk,hqk⟩:=HST3.out.tm.kid
     obtain ⟨⟨bk,oo,hpK,hSb,hcells⟩,h1in⟩:=hqk 1 x1 HK1.out
     obtain ⟨⟨bk',oo',hpK',-,hcells0⟩,h0in⟩:=hqk 0 x0 HK0.out
     obtain ⟨rfl,rfl⟩:bk=bk'∧oo=oo':=by
      have:=hpK.symm.trans hpK'
      simp only [Option.some.injEq,Addr.mk.injEq] at this
      exact ⟨this.1,this.2.1⟩
     clear c0 c1 c2 c3 c4 c5 c6 c7 hpK'
     obtain ⟨c0,c1,c2,c3,c4,c5,c6,c7⟩:=row8 HST3.out.box
     rw [hpK,HMM.out] at c7
     have d0:=hcells 0 _ rfl
     have d1:=hcells 1 _ rfl
     have d2:=hcells 2 _ rfl
     have d3:=hcells 3 _ rfl
     have d4:=hcells 4 _ rfl
     have d5:=hcells 5 _ rfl
     have d6:=hcells 6 _ rfl
     have d7:=hcells 7 _ rfl
     rw [Nat.add_zero] at d0
     have HPK:=Ak hpK
     have HSB:=Ak hSb
     have HC0:=Ak hcells0
     have H0IN:=Ak h0in
     have H1IN:=Ak h1in
     obtain ⟨y,hy⟩:∃ y,y=ownT x1:=⟨_,rfl⟩
     have HY:=Ak hy
     have HLL:=Ak (show L.length≤2000 by have:=HD.out;have:=HDP.out;omega)
     clear hcells hcells0 h1in h0in hqk hpK hSb hy
     have hzs:w.heap.size≤w3.heap.size:=HST3.out.bel.size
     go_upto_region 6 with (first
      | (go_at_call 56;go_must (refine (townS_calls S w.heap.size x1 (qk 1) w3 hzs HSW.out H1IN.out).mono ?_;rw [← HY.out];rintro e w4 ⟨q9,rfl,ht9,hb4⟩;obtain ⟨W5,hW5⟩:∃ W5,W5=w4.alloc (.cells (tmC q9 y).toArray 28 (0,0)):=⟨_,rfl⟩;have hW5':W5=_:=hW5;simp only [tmC,List.cons_append,List.nil_append] at hW5';have hb5:Below w4.heap.size w4 W5:=(by rw [hW5];exact below_alloc (Below.refl _ _) _);have HB5:=Ak (below_then hb4 hb4.size hb5);have HR5:=Ak (show W5.heap[w4.heap.size]?=some (.cells (tmC q9 y).toArray 28 (0,0)) from (by rw [hW5];exact blk_new _ _));have HT5:=Ak (ht9.later hb5);have hz4:=hb4.size;have hz5:=HB5.out.size;clear hW5 ht9 hb4 hb5;obtain ⟨cells,q5,hown,hkids⟩:=HK3.out.later HB5.out;rw [HNV.out] at hown;have HOWN:=Ak hown;have HKID:=Ak hkids;clear hown hkids;unfold tmV))
      | (rw [← hW5'];refine print_append_at (w.heap.size+2) rfl (.tmp 16) (.tmp 22) 26 28 _ 8 120 rfl Try.underlying26 infoTm rfl (by decide) (by decide) (.slice AV nV cV) nV cells (tmC q9 y) rfl rfl HR5.out rfl (List.all_eq_true.1 rfl) HOWN.out (by have:=HLL.out;have:=HNV.out;rw [List.length_map] at this;omega) (by omega) ?_;intro v1 w6 ho1 hg hat;have HG6:=Ak hg;have HO6:=Ak ho1;have HA6:=Ak hat;obtain ⟨A6,c6',rfl⟩:=own_slice HO6.out;clear ho1 hg hat))
     have HOB:=Ak (show ∀ k,(Value.slice AV nV cV).ownBlock=some k→w.heap.size+2≤k from fun k e=>own_base HOWN.out k e)
     have HST6:=Ak ((HST3.out.later HSW.out HB5.out).grown HSW.out HG6.out HOB.out)
     have HS36:=Ak (show ∀ k,k<w.heap.size→w6.heap[k]?=w3.heap[k]? from fun k hk=>(HG6.out.block k (by omega) (fun e=>by have:=HOB.out _ e.symm;omega)).trans (HB5.out.block k (by omega)))
     have HK6:=Ak (KidsT.push (p:=q9) (x:=y) (fun b hb=>by have:=HSW.out b hb;omega) (by rw [HNV.out];exact HOWN.out) HKID.out (HT5.out.mono fun k hk hz=>hk.imp id fun h=>⟨by omega,fun e=>by have:=own_lt HK3.out.choose_spec.choose_spec.1 k e;omega⟩) (by rw [HNV.out];exact HO6.out) HG6.out HA6.out)
     have HI6:=Ak (show TmS w6 S (qk 0) x0 from H0IN.out.same fun k hk hz=>HS36.out k (HSW.out k hk))
     clear c0 c1 c2 c3 c4 c5 c6 c7 d0 d1 d2 d3 d4 d5 d6 d7 hW5'
     have e7:=(row8 HST6.out.box).2.2.2.2.2.2.2
     rw [HPK.out,HMM.out] at e7
     have hbk:∀ j v,(tmC (qk 0) x0)[j]?=some v→w6.cell? ⟨bk,oo+0 * 8+j,none⟩=some v:=fun j v hv=>(cell_same (HS36.out bk (HSW.out _ HSB.out))).trans (HC0.out j v hv)
     have d0:=hbk 0 _ rfl
     have d1:=hbk 1 _ rfl
     have d2:=hbk 2 _ rfl
     have d3:=hbk 3 _ rfl
     have d4:=hbk 4 _ rfl
     have d5:=hbk 5 _ rfl
     have d6:=hbk 6 _ rfl
     have d7:=hbk 7 _ rfl
     rw [Nat.add_zero] at d0
     obtain ⟨o0,o1,o2,o3,o4,o5,o6,o7,f0,f1,f2,f3,f4,f5,f6,f7⟩:=row8c HST6.out.box
     rw [HPK.out,HMM.out] at o7
     clear hbk e7
     go_wp2
     go_roundw
     case rel =>
      have hch:=chg_set8 w6 (w.heap.size) (.int .i64 x0.kind) (.int .i64 x0.num) (.string x0.name) (.int .i64 x0.lv.kind) (.int .i64 x0.lv.num) (.slice (qk 0).A x0.lv.kids.length (qk 0).c) (.slice (qk 0).B x0.ls.length (qk 0).d) (.slice (qk 0).K x0.kids.length (qk 0).e)
      have hst:=HST6.out
      have hz6:=HG6.out.size
      refine ⟨x0,qk 0,L ++ [x1],⟨?_⟩,⟨⟨set8 hst.box,HI6.out.same fun k hk hz=>hch.block k hz (by have:=HSW.out k hk;omega),(hch.block _ (blk_lt hst.res) (by omega)).trans hst.res,Chg.trans_below hst.bel hch (fun _ e=>by omega) hst.bel.size,HE0.out.symm.trans hst.hd⟩⟩,⟨?_⟩,⟨?_⟩,by have:=hch.size;omega⟩
      ·have:=HA.out
       rw [HEA.out] at this
       rw [List.reverse_append,← this]
       simp
      ·have:=HD.out;have:=HD0.out;simp;omega
      ·have:=HK6.out.other hch (by omega) (fun h=>by have:=HSW.out _ h;omega)
       rw [List.map_append,List.map_cons,List.map_nil,← HY.out]
       exact this
     case measure =>
      have:=HLL.out;have:=HNV.out
      rw [List.length_map] at this
      simp [slN];omega
   ·have b6:(t'.kind == 6)=false:=by simp [hk]
    have HNO:=Ak (show ¬ (t'.kind=6∧nK t'≠0) from fun h=>hk h.1)
    clear hk
    go_wp2
    go_meet
    case rel =>
     have hE:=spH_end HNO.out
     have hEA:=spA_end HNO.out
     have hA:=HA.out
     rw [hEA,List.nil_append] at hA
     have hst:=HST.out
     refine ⟨p',L,⟨?_⟩,⟨hA⟩,?_,HK,by omega⟩
     ·have hh:=hst.hd
      rw [hE] at hh
      rw [← hh]
      exact hst
     ·have:=HD.out;have:=HDP.out;omega
 case rest =>
  clear HST0 HZ2
  obtain ⟨p',L,HST,HL,hL2,HK,hzw⟩:=hcut
  obtain ⟨y,hy⟩:∃ y,y=ownT (spH t):=⟨_,rfl⟩
  have HY:=Ak hy
  have HRV:=Ak (show (L.map ownT).reverse=(spA t).map ownT by rw [← List.map_reverse,HL.out])
  have HRL:=Ak (show (L.map ownT).length=((spA t).map ownT).length by rw [← HRV.out,List.length_reverse])
  clear hy
  obtain ⟨xs,hxs⟩:∃ xs,xs=L.map ownT:=⟨_,rfl⟩
  have HXL:=Ak (show xs.length≤2000 by rw [hxs,List.length_map];exact hL2)
  rw [← hxs] at HK HRV HRL
  obtain ⟨z,hz⟩:∃ z,z=spH t:=⟨_,rfl⟩
  have HY2:=Ak (show y=ownT z by rw [hz];exact HY.out)
  rw [← hz] at HST
  clear hxs hz
  go_wp2_with (first
   | (refine wpList_load_row rfl 28 _ rfl (w.heap.size) rfl 28 _ (0,0) _ HX5.out Try.underlying28 rfl (by kernel_rfl) ?_)
   | (go_at_call 76;go_must (refine (revS_calls S (w.heap.size+2) _ xs wc HK.out (fun k h=>by have:=HSW.out k h;omega) hzw (by have:=HXL.out;omega)).mono ?_;rintro e w5 ⟨rfl,hb,A5,c5,q5,rfl,htm⟩;have HX5:=Ak ((hb.block _ (by omega)).trans HST.out.box);have HR5:=Ak ((hb.block _ (by omega)).trans HST.out.res);have HB5:=Ak (Below.trans HST.out.bel (hb.mono (by omega)));have HT5:=Ak (HST.out.tm.same (w':=w5) fun k hk hz=>hb.block k (by have:=HSW.out k hk;omega));have HTM5:=Ak htm;have hz5:=hb.size;clear hb htm))
   | (go_at_call 56;go_must (refine (townS_calls S w.heap.size z p' w5 HB5.out.size HSW.out HT5.out).mono ?_;rw [← HY2.out];rintro e w6 ⟨q9,rfl,ht9,hb6⟩;have HT6:=Ak ht9;have HR6:=Ak ((hb6.block _ (by omega)).trans HR5.out);have HB6:=Ak (below_then HB5.out HB5.out.size hb6);have HTM6:=Ak (HTM5.out.same fun k _ hk=>hb6.block k hk);have hz6:=hb6.size;obtain ⟨r0,r1,r2,r3,r4,r5,r6,r7,f0,f1,f2,f3,f4,f5,f6,f7⟩:=row8c HR6.out;clear ht9 hb6;unfold tmV)))
  refine bodyPost_ret (results_ct rfl _ _ (w.heap.size+1) 28 #[.int .i64 y.kind,.int .i64 y.num,.string y.name,.int .i64 y.lv.kind,.int .i64 y.lv.num,.slice q9.A y.lv.kids.length q9.c,.slice q9.B y.ls.length q9.d,.slice q9.K y.kids.length q9.e] (0,0) _ rfl (set8 HR6.out) Try.underlying28 rfl (by kernel_rfl)) rfl ?_
  have hch:=chg_set8 w6 (w.heap.size+1) (.int .i64 y.kind) (.int .i64 y.num) (.string y.name) (.int .i64 y.lv.kind) (.int .i64 y.lv.num) (.slice q9.A y.lv.kids.length q9.c) (.slice q9.B y.ls.length q9.d) (.slice q9.K y.kids.length q9.e)
  rw [← HY.out]
  refine ⟨q9,A5,xs.length,c5,q5,rfl,HRL.out,(HT6.out.same fun k hk hz=>hch.block k hz (by rcases hk with hk | hk;have:=HSW.out k hk;omega;omega)).mono fun k hk _=>hk.imp id (fun h=>by omega),?_,Chg.trans_below HB6.out hch (fun _ e=>by omega) HB6.out.size⟩
  rw [← HRV.out]
  exact (HTM6.out.same fun k hk hz=>hch.block k hz (by rcases hk with hk | hk;have:=HSW.out k hk;omega;omega)).mono fun k hk _=>hk.imp id (fun h=>by omega)
end Go.Proofs.Ytdboloabpjmgaaa

namespace Go.Proofs.Ytdboloabpjmgaaa
open Go.RowKit Go.Proofs.YtdboloabpjmgaaaW.PrintWords Go.RegionInvYtdboloabpjmgaaa Go.RegionEYtdboloabpjmgaaa

theorem leafR_6 {t:Tm} (h:t.kind=6):leafR t=leafT t:=by
 have h6:arZ t.kind=2:=by rw [h];rfl
 unfold leafR leafT nK
 rw [h6]
 by_cases hl:(t.kids.length:Int)<2
 ·rw [if_pos hl];simp;omega
 ·rw [if_neg hl];simp;omega
def KidsS (w:World) (S:Nat→Prop) (lo:Nat) (V:Value) (xs:List Tm):Prop:=
 ∃ (cells:List Value) (q:Nat→Pl),w.ownsRow lo 28 8 V xs.length cells∧(∀ u∈cells,u.oneCell'=true)∧(xs=[]→V=.slice none 0 0) ∧
  ∀ (i:Nat) (x:Tm),xs[i]?=some x→(∀ (j:Nat) (v:Value),(tmC (q i) x)[j]?=some v→cells[i * 8+j]?=some v)∧TmS w S (q i) x
theorem KidsS.nil (w:World) (S:Nat→Prop) (lo:Nat):KidsS w S lo (.slice none 0 0) []:=⟨[],fun _=>default,own_nil _ _ _ _,by simp,fun _=>rfl,fun i x h=>by simp at h⟩
theorem KidsS.later {w w':World} {S:Nat→Prop} {lo:Nat} {V:Value} {xs:List Tm} (h:KidsS w S lo V xs) (hb:Below w.heap.size w w'):KidsS w' S lo V xs:=by
 obtain ⟨cells,q,ho,h1,h0,hk⟩:=h
 exact ⟨cells,q,pw_own_below ho hb,h1,h0,fun i x hx=>⟨(hk i x hx).1,(hk i x hx).2.later hb⟩⟩
theorem KidsS.other {w w':World} {S:Nat→Prop} {lo g:Nat} {V:Value} {xs:List Tm} (h:KidsS w S lo V xs) (hc:Chg (fun k=>k=g) w w') (hg:g<lo) (hS:¬ S g):KidsS w' S lo V xs:=by
 obtain ⟨cells,q,ho,h1,h0,hk⟩:=h
 exact ⟨cells,q,ownsRow_same ho fun k hk=>hc.block k (own_lt ho k hk) (by have:=own_base ho k hk;omega),h1,h0,fun i x hx=>⟨(hk i x hx).1,(hk i x hx).2.same fun k hs hz=>hc.block k hz (fun e=>hS (e ▸ hs))⟩⟩
theorem KidsS.len {w:World} {S:Nat→Prop} {lo:Nat} {V:Value} {xs:List Tm} (h:KidsS w S lo V xs):∃ A c,V=.slice A xs.length c∧xs.length≤c∧c≤9223372036854775807∧True:=by
 obtain ⟨cells,q,ho,-⟩:=h
 obtain ⟨K,e,rfl⟩:=own_slice ho
 exact ⟨K,e,rfl,own_cap ho,own_max ho,trivial⟩
theorem KidsS.tmss {w:World} {S:Nat→Prop} {lo n c:Nat} {A:Option Addr} {xs:List Tm} (h:KidsS w S lo (.slice A n c) xs):∃ q,TmsS w (fun k=>S k∨lo≤k) A q xs:=by
 obtain ⟨cells,q,ho,-,-,hk⟩:=h
 refine ⟨q,fun i x hx=>⟨?_,(hk i x hx).2.mono fun k h _=>.inl h⟩⟩
 have hi:=(List.getElem?_eq_some_iff.1 hx).1
 obtain ⟨g,cap,hv,hb,_⟩:=ho.form (by omega)
 have hv':=hv
 simp only [Value.slice.injEq] at hv
 refine ⟨g,0,hv.1,.inr hb,fun j v hjv=>?_⟩
 have:=ho.cells (g:=g) (by rw [hv'];rfl) _ _ ((hk i x hx).1 j v hjv)
 rwa [add_flat,← Nat.add_assoc] at this
theorem SpB.far {w wr W:World} {S:Nat→Prop} {t:Tm} {p':Pl} {t':Tm} (h:SpB w wr S t p' t') (hS:∀ k,S k→k<w.heap.size) (hc:Below (w.heap.size+2) wr W):SpB w W S t p' t':=
 ⟨(hc.block _ (by omega)).trans h.box,h.tm.same fun k hk _=>hc.block k (by have:=hS k hk;omega),(hc.block _ (by omega)).trans h.res,Below.trans h.bel (hc.mono (by omega)),h.hd⟩
theorem KidsS.cons {w w6:World} {S:Nat→Prop} {lo n:Nat} {v6:Value} {xs:List Tm} {x:Tm} {p:Pl} {cells:List Value} {q:Nat→Pl} (h1:∀ u∈cells,u.oneCell'=true)
  (hk:∀ (i:Nat) (x:Tm),xs[i]?=some x→(∀ (j:Nat) (v:Value),(tmC (q i) x)[j]?=some v→cells[i * 8+j]?=some v)∧TmS w S (q i) x) (hx:TmS w S p x) (hn:n=xs.length)
  (ho:w6.ownsRow lo 28 8 v6 (1+n) (tmC p x ++ cells)) (hs:∀ k,S k→k<w.heap.size→w6.heap[k]?=w.heap[k]?):KidsS w6 S lo v6 (x :: xs):=by
 subst hn
 refine ⟨tmC p x ++ cells,fun i=>if i=0 then p else q (i - 1),by rw [List.length_cons,Nat.add_comm];exact ho,fun u hu=>?_,fun h=>by simp at h,fun i y hy=>?_⟩
 ·rcases List.mem_append.1 hu with hu | hu
  ·exact (List.all_eq_true.1 (tmC_one p x)) u hu
  ·exact h1 u hu
 ·cases i with
  | zero =>
   obtain rfl:x=y:=by simpa using hy
   refine ⟨fun j v hv=>?_,hx.same hs⟩
   have hj:j<8:=by have:=(List.getElem?_eq_some_iff.1 hv).1;rwa [tmC_len] at this
   rw [List.getElem?_append_left (by rw [tmC_len];omega),Nat.zero_mul,Nat.zero_add]
   exact hv
  | succ i =>
   obtain ⟨g1,g2⟩:=hk i y (by simpa using hy)
   refine ⟨fun j v hv=>?_,g2.same hs⟩
   rw [List.getElem?_append_right (by rw [tmC_len];omega),tmC_len,show (i+1) * 8+j - 8=i * 8+j by omega]
   exact g1 j v hv
theorem app_front {ops:Array Oper} {rest:List Oper} {o:Oper} {a:Act} {Q:Exit→Act→World→Prop} {W:World} {S:Nat→Prop} {lo n b c:Nat} {A:Option Addr} {xs:List Tm} {x:Tm} {p:Pl} (hgd:o.guard=none) (s y:Operand)
  (ho:o.op=.call { callee:=.builtin .append,args:=#[s,y],argTypes:=#[26,26] }) (hs:a.eval s=.slice (some ⟨b,0,none⟩) 1 1) (hy:a.eval y=.slice A n c) (h:KidsS W S lo (.slice A n c) xs) (hn:n=xs.length) (hn9:n≤2000)
  (hb:W.heap[b]?=some (.cells (tmC p x).toArray 28 (0,0))) (hlb:lo≤b) (hlo:lo≤W.heap.size) (hx:TmS W S p x) (hS:∀ k,S k→k<lo)
  (hnext:∀ A' c' w',KidsS w' S lo (.slice A' (n+1) c') (x :: xs)→Below lo W w'→wpList Try.prog ops Q rest (a.put o.dst (.slice A' (n+1) c')) w'):wpList Try.prog ops Q (o :: rest) a W:=by
 obtain ⟨i0,hi,hzz⟩:=Option.map_eq_some_iff.1 infoTm
 simp only [Prod.mk.injEq] at hzz
 obtain ⟨hz0,hz1,hz2⟩:=hzz
 have hown:W.ownsRow lo 28 8 (.slice (some ⟨b,0,none⟩) 1 1) 1 (tmC p x):=⟨rfl,.inr ⟨b,1,_,rfl,hlb,hb,Nat.le_refl _,by decide,rfl,rfl⟩⟩
 obtain ⟨cells,q,hrow,h1,h0,hk⟩:=h
 by_cases hne:xs=[]
 ·subst hne
  obtain rfl:n=0:=hn
  have hv:=h0 rfl
  simp only [Value.slice.injEq] at hv
  obtain ⟨rfl,-,rfl⟩:=hv
  have hr:(execOp a.eval o).run Try.prog W=.ok (.value (.slice (some ⟨b,0,none⟩) 1 1)) W:=by
   unfold execOp
   rw [ho]
   simp only [resolve,invoke,builtin,Sem.run_bind,Sem.run_pure,Result.andThen_ok,List.map_toArray,List.map_cons,List.map_nil,hs,hy]
   simp [Builtin.append_,run_underlying Try.underlying26,sizeOf,typeInfo,hi,Builtin.lenOf,Builtin.firstCells,loadCells,loadCellsFrom,storeCells]
  refine wpList_plain hgd fun _ hK=>?_
  unfold Oper.wp
  rw [hr]
  refine hK _ _ (hnext _ _ W ?_ (Below.refl _ _))
  refine KidsS.cons (n:=0) (cells:=[]) (q:=q) (by simp) (fun i x h=>by simp at h) hx rfl ?_ (fun _ _ _=>rfl)
  rw [List.append_nil];exact hown
 ·have hpos:0<n:=by cases xs with
   | nil=>exact absurd rfl hne
   | cons x r=>rw [hn];simp
  rw [← hn] at hrow
  obtain ⟨g,cap,hv,hbg,hgz⟩:=hrow.form hpos
  have hv':=hv
  simp only [Value.slice.injEq] at hv
  obtain ⟨rfl,-,rfl⟩:=hv
  refine wpList_append_lies W hgd s y 26 ho lo 28 i0 _ 8 120 Try.underlying26 hi hz0 hz1 hz2 rfl (by decide) (.slice (some ⟨b,0,none⟩) 1 1) 1 (tmC p x) hs hown ⟨g,0,none⟩ n c cells hy (own_len hrow) (fun j u hu=>hrow.cells (g:=g) rfl j u hu) h1 hpos (by simp only [maxLen];omega) (by omega) hlo W.heap.size rfl ?_
  intro g' cap' w' ho' hg' hat hlt
  rw [show 1+n=n+1 by omega]
  refine hnext _ _ w' ?_ ⟨hg'.os,hg'.tape,hg'.output,hg'.size,fun k hk=>hg'.block k (by omega) (fun e=>by simp [Value.ownBlock] at e;omega)⟩
  refine KidsS.cons (n:=n) h1 hk hx hn ?_ (fun k hs hz=>hg'.block k hz (fun e=>by simp [Value.ownBlock] at e;have:=hS k hs;omega))
  rw [show 1+n=n+1 by omega] at ho' ⊢
  exact ho'
set_option maxRecDepth 100000 in
set_option maxHeartbeats 8000000 in
theorem rspine_calls (S:Nat→Prop) (g0:Nat) (hS:∀ k,S k→k<g0) (t:Tm) (p:Pl) (w:World) (hok:okT t) (hg0:g0≤w.heap.size) (hin:TmS w S p t) :
  Calls Try.prog 35 #[tmV p t] w (SpGot w S (spH t) (spA t)):=by
 obtain ⟨W,hW⟩:∃ W,W=(w.alloc (tmO p t)).alloc (outK 0 (.slice none 0 0)):=⟨_,rfl⟩
 have hb:Below w.heap.size w W:=by rw [hW];exact below_alloc (below_alloc (Below.refl _ _) _) _
 have HX:=Ak (show W.heap[w.heap.size]?=some (tmO p t) by rw [hW];exact box0 w _ _)
 have HX1:=Ak (show W.heap[w.heap.size+1]?=some (outK 0 (.slice none 0 0)) by rw [hW];exact box1 w _ _)
 have HZ:=Ak (show W.heap.size=w.heap.size+2 by rw [hW];simp)
 have HB:=Ak hb
 have HIN:=Ak (TmS.stay hin hS (hb.mono hg0))
 have HSS:=Ak hS
 have HSW:=Ak (show ∀ k,S k→k<w.heap.size from fun k h=>Nat.lt_of_lt_of_le (hS k h) hg0)
 have HG:=Ak (show (!decide (okT t))=false by simp [hok])
 have HDP:=Ak hok.2
 have HT0:=Ak (rfl:t=t)
 clear hin hb hS hok
 unfold tmV
 unfold tmO at hW
 go_enter Try.func35,Try.ntmps35
 go_upto_region 1 with (fail)
 rw [← hW]
 clear hW
 go_upto_region 3 with (first
  | (refine wpList_load_row rfl 28 _ rfl (w.heap.size) rfl 28 _ (0,0) _ HX.out Try.underlying28 rfl (by kernel_rfl) ?_)
  | (go_at_call 26;go_must (refine (tooGreat_calls t p W (TmS.all HIN.out)).mono ?_;rintro e w2 ⟨rfl,hb⟩;rw [HG.out];have HST0:=Ak (show SpB w w2 S t p t from ⟨(hb.block _ (blk_lt HX.out)).trans HX.out,TmS.stay HIN.out HSS.out (hb.mono (Nat.le_trans hg0 HB.out.size)),(hb.block _ (blk_lt HX1.out)).trans HX1.out,below_then HB.out HB.out.size hb,rfl⟩);have HZ2:=Ak (show w.heap.size+2≤w2.heap.size by have:=hb.size;have:=HZ.out;omega);clear hb)))
 clear HX HX1 HIN HB HZ HG
 go_upto_block 0 with (fail)
 go_cut [4] (fun V wr=>∃ (p':Pl) (L:List Tm),Aside0 (SpB w wr S t p' (spH t))∧Aside0 (L=spA t)∧L.length≤2000∧Aside0 (KidsS wr S (w.heap.size+2) V L)∧w.heap.size+2≤wr.heap.size)
 case first =>
  go_wp2
  go_loopw [4] (fun V wr=>∃ (t':Tm) (p':Pl) (L:List Tm),Aside0 (spA t' ++ L=spA t)∧Aside0 (SpB w wr S t p' t')∧Aside0 (L.length+depthT t'≤depthT t)∧Aside0 (KidsS wr S (w.heap.size+2) V L)∧w.heap.size+2≤wr.heap.size) (fun V _=>2001 - slN V)
  case atStart=>exact ⟨t,p,[],⟨by simp⟩,HST0,⟨by simp⟩,⟨KidsS.nil _ _ _⟩,HZ2.out⟩
  case round =>
   clear HST0 HZ2
   obtain ⟨t',p',L,HA,HST,HD,HK,hzw⟩:=hrel
   obtain ⟨AV,cV,rfl,hnc,-,-⟩:=HK.out.len
   obtain ⟨nV,hnV⟩:∃ n,L.length=n:=⟨_,rfl⟩
   rw [hnV] at HK hnc ⊢
   have HNV:=Ak hnV
   clear hnV
   obtain ⟨c0,c1,c2,c3,c4,c5,c6,c7⟩:=row8 HST.out.box
   have hkl:=HST.out.tm.len
   have HLN:=Ak (show t'.kids.length≤9223372036854775807 by omega)
   have hll:=HST.out.tm.lv.len
   have hln:=HST.out.tm.ls.len
   by_cases hk:t'.kind=6
   ·have b6:(t'.kind == 6)=true:=by simp [hk]
    have HKK:=Ak hk
    clear hk
    by_cases h0:nK t'=0
    ·have HLF:=Ak (show leafT t'=true from decide_eq_true h0)
     have HLR:=Ak ((leafR_6 HKK.out).trans HLF.out)
     have HNO:=Ak (show ¬ (t'.kind=6∧nK t'≠0) from fun h=>h.2 h0)
     clear h0
     go_wp2_with (go_at_call 77;go_must (refine (refleaf_calls t' p' _ HLN.out).mono ?_;rintro e w3 ⟨rfl,hb⟩;rw [HLR.out];have HST3:=Ak (HST.out.later HSW.out hb);have HK3:=Ak (HK.out.later hb);have hz3:=hb.size;clear hb))
     go_meet
     case rel =>
      have hE:=spH_end HNO.out
      have hEA:=spA_end HNO.out
      have hA:=HA.out
      rw [hEA,List.nil_append] at hA
      have hst:=HST3.out
      refine ⟨p',L,⟨?_⟩,⟨hA⟩,?_,HK3,by omega⟩
      ·have hh:=hst.hd
       rw [hE] at hh
       rw [← hh]
       exact hst
      ·have:=HD.out;have:=HDP.out;omega
    ·have HLF:=Ak (show leafT t'=false from decide_eq_false h0)
     have HLR:=Ak ((leafR_6 HKK.out).trans HLF.out)
     have HAP:=Ak (show t'.kind=6∧nK t'≠0 from ⟨HKK.out,h0⟩)
     clear h0
     go_upto_if 15 with (go_at_call 77;go_must (refine (refleaf_calls t' p' _ HLN.out).mono ?_;rintro e w3 ⟨rfl,hb⟩;rw [HLR.out];have HST3:=Ak (HST.out.later HSW.out hb);have HK3:=Ak (HK.out.later hb);have hz3:=hb.size;clear hb))
     obtain ⟨k0,z0,-,-⟩:=app_kid HAP.out (i:=0) (by decide)
     obtain ⟨k1,z1,-,-⟩:=app_kid HAP.out (i:=1) (by decide)
     have HD0:=Ak ((app_kid HAP.out (i:=0) (by decide)).2.2.1)
     have HE0:=Ak (spH_app HAP.out)
     have HEA:=Ak (spA_app HAP.out)
     obtain ⟨x0,hx0⟩:∃ x,kidD t' 0=x:=⟨_,rfl⟩
     obtain ⟨x1,hx1⟩:∃ x,kidD t' 1=x:=⟨_,rfl⟩
     rw [hx0] at k0 HD0 HE0 HEA
     rw [hx1] at k1 HEA
     have h2l:2≤t'.kids.length:=by have:=(List.getElem?_eq_some_iff.1 k1).1;omega
     obtain ⟨m,hm⟩:∃ m,t'.kids.length=m:=⟨_,rfl⟩
     rw [hm] at c7 hkl h2l
     have HMM:=Ak hm
     have HK0:=Ak k0
     have HK1:=Ak k1
     clear hm hx0 hx1 k0 k1 z0 z1
     obtain ⟨qk,hqk⟩:=HST3.out.tm.kid
     obtain ⟨⟨bk,oo,hpK,hSb,hcells⟩,h1in⟩:=hqk 1 x1 HK1.out
     obtain ⟨⟨bk',oo',hpK',-,hcells0⟩,h0in⟩:=hqk 0 x0 HK0.out
     obtain ⟨rfl,rfl⟩:bk=bk'∧oo=oo':=by
      have:=hpK.symm.trans hpK'
      simp only [Option.some.injEq,Addr.mk.injEq] at this
      exact ⟨this.1,this.2.1⟩
     clear c0 c1 c2 c3 c4 c5 c6 c7 hpK'
     obtain ⟨c0,c1,c2,c3,c4,c5,c6,c7⟩:=row8 HST3.out.box
     rw [hpK,HMM.out] at c7
     have d0:=hcells 0 _ rfl
     have d1:=hcells 1 _ rfl
     have d2:=hcells 2 _ rfl
     have d3:=hcells 3 _ rfl
     have d4:=hcells 4 _ rfl
     have d5:=hcells 5 _ rfl
     have d6:=hcells 6 _ rfl
     have d7:=hcells 7 _ rfl
     rw [Nat.add_zero] at d0
     have HPK:=Ak hpK
     have HSB:=Ak hSb
     have HC0:=Ak hcells0
     have H0IN:=Ak h0in
     have H1IN:=Ak h1in
     have HLL:=Ak (show L.length≤2000 by have:=HD.out;have:=HDP.out;omega)
     clear hcells hcells0 h1in h0in hqk hpK hSb
     have hzs:w.heap.size≤w3.heap.size:=HST3.out.bel.size
     obtain ⟨W5,hW5⟩:∃ W5,W5=w3.alloc (.cells (tmC (qk 1) x1).toArray 28 (0,0)):=⟨_,rfl⟩
     have hW5':W5=_:=hW5
     simp only [tmC,List.cons_append,List.nil_append] at hW5'
     have HB5:=Ak (show Below w3.heap.size w3 W5 by rw [hW5];exact below_alloc (Below.refl _ _) _)
     have HR5:=Ak (show W5.heap[w3.heap.size]?=some (.cells (tmC (qk 1) x1).toArray 28 (0,0)) by rw [hW5];exact blk_new _ _)
     have hz5:=HB5.out.size
     have HKS5:=Ak (HK3.out.later HB5.out)
     have HT5:=Ak (H1IN.out.later HB5.out)
     have HNV2:=Ak (show nV≤2000 by have:=HNV.out;have:=HLL.out;omega)
     clear hW5
     go_upto_region 6 with (rw [← hW5'];refine app_front (S:=S) (lo:=w.heap.size+2) (xs:=L) (x:=x1) (p:=qk 1) (b:=w3.heap.size) (n:=nV) rfl (.tmp 20) (.tmp 21) rfl rfl rfl HKS5.out HNV.out.symm HNV2.out HR5.out (by omega) (by omega) HT5.out (fun k h=>by have:=HSW.out k h;omega) ?_;rintro A6 c6' w6 hk6 hch6;have HK6:=Ak hk6;have HC6:=Ak hch6;clear hk6 hch6)
     have HST6:=Ak (SpB.far (HST3.out.later HSW.out HB5.out) HSW.out HC6.out)
     have HS36:=Ak (show ∀ k,k<w.heap.size→w6.heap[k]?=w3.heap[k]? from fun k hk=>(HC6.out.block k (by omega)).trans (HB5.out.block k (by omega)))
     have HI6:=Ak (show TmS w6 S (qk 0) x0 from H0IN.out.same fun k hk hz=>HS36.out k (HSW.out k hk))
     clear c0 c1 c2 c3 c4 c5 c6 c7 d0 d1 d2 d3 d4 d5 d6 d7 hW5'
     have e7:=(row8 HST6.out.box).2.2.2.2.2.2.2
     rw [HPK.out,HMM.out] at e7
     have hbk:∀ j v,(tmC (qk 0) x0)[j]?=some v→w6.cell? ⟨bk,oo+0 * 8+j,none⟩=some v:=fun j v hv=>(cell_same (HS36.out bk (HSW.out _ HSB.out))).trans (HC0.out j v hv)
     have d0:=hbk 0 _ rfl
     have d1:=hbk 1 _ rfl
     have d2:=hbk 2 _ rfl
     have d3:=hbk 3 _ rfl
     have d4:=hbk 4 _ rfl
     have d5:=hbk 5 _ rfl
     have d6:=hbk 6 _ rfl
     have d7:=hbk 7 _ rfl
     rw [Nat.add_zero] at d0
     obtain ⟨o0,o1,o2,o3,o4,o5,o6,o7,f0,f1,f2,f3,f4,f5,f6,f7⟩:=row8c HST6.out.box
     rw [HPK.out,HMM.out] at o7
     clear hbk e7
     go_wp2
     go_roundw
     case rel =>
      have hch:=chg_set8 w6 (w.heap.size) (.int .i64 x0.kind) (.int .i64 x0.num) (.string x0.name) (.int .i64 x0.lv.kind) (.int .i64 x0.lv.num) (.slice (qk 0).A x0.lv.kids.length (qk 0).c) (.slice (qk 0).B x0.ls.length (qk 0).d) (.slice (qk 0).K x0.kids.length (qk 0).e)
      have hst:=HST6.out
      have hz6:=HC6.out.size
      refine ⟨x0,qk 0,x1 :: L,⟨?_⟩,⟨⟨set8 hst.box,HI6.out.same fun k hk hz=>hch.block k hz (by have:=HSW.out k hk;omega),(hch.block _ (blk_lt hst.res) (by omega)).trans hst.res,Chg.trans_below hst.bel hch (fun _ e=>by omega) hst.bel.size,HE0.out.symm.trans hst.hd⟩⟩,⟨?_⟩,⟨?_⟩,by have:=hch.size;omega⟩
      ·have:=HA.out
       rw [HEA.out] at this
       rw [← this]
       simp
      ·have:=HD.out;have:=HD0.out;simp;omega
      ·exact HK6.out.other hch (by omega) (fun h=>by have:=HSW.out _ h;omega)
     case measure =>
      have:=HLL.out;have:=HNV.out
      simp [slN];omega
   ·have b6:(t'.kind == 6)=false:=by simp [hk]
    have HNO:=Ak (show ¬ (t'.kind=6∧nK t'≠0) from fun h=>hk h.1)
    clear hk
    go_wp2
    go_meet
    case rel =>
     have hE:=spH_end HNO.out
     have hEA:=spA_end HNO.out
     have hA:=HA.out
     rw [hEA,List.nil_append] at hA
     have hst:=HST.out
     refine ⟨p',L,⟨?_⟩,⟨hA⟩,?_,HK,by omega⟩
     ·have hh:=hst.hd
      rw [hE] at hh
      rw [← hh]
      exact hst
     ·have:=HD.out;have:=HDP.out;omega
 case rest =>
  clear HST0 HZ2
  obtain ⟨p',L,HST,HL,hL2,HK,hzw⟩:=hcut
  obtain ⟨AV,cV,rfl,-⟩:=HK.out.len
  obtain ⟨nV,hnV⟩:∃ n,L.length=n:=⟨_,rfl⟩
  rw [hnV] at HK ⊢
  have HNV:=Ak hnV
  clear hnV
  obtain ⟨y,hy⟩:∃ y,y=spH t:=⟨_,rfl⟩
  have HY:=Ak hy
  rw [← hy] at HST
  clear hy
  obtain ⟨q9,hq9⟩:∃ q,q=p':=⟨_,rfl⟩
  subst hq9
  have HX6:=Ak HST.out.res
  obtain ⟨r0,r1,r2,r3,r4,r5,r6,r7,f0,f1,f2,f3,f4,f5,f6,f7⟩:=row8c HX6.out
  go_wp2_with (refine wpList_load_row rfl 28 _ rfl (w.heap.size) rfl 28 _ (0,0) _ HST.out.box Try.underlying28 rfl (by kernel_rfl) ?_)
  refine bodyPost_ret (results_ct rfl _ _ (w.heap.size+1) 28 #[.int .i64 y.kind,.int .i64 y.num,.string y.name,.int .i64 y.lv.kind,.int .i64 y.lv.num,.slice q9.A y.lv.kids.length q9.c,.slice q9.B y.ls.length q9.d,.slice q9.K y.kids.length q9.e] (0,0) _ rfl (set8 HX6.out) Try.underlying28 rfl (by kernel_rfl)) rfl ?_
  have hch:=chg_set8 wc (w.heap.size+1) (.int .i64 y.kind) (.int .i64 y.num) (.string y.name) (.int .i64 y.lv.kind) (.int .i64 y.lv.num) (.slice q9.A y.lv.kids.length q9.c) (.slice q9.B y.ls.length q9.d) (.slice q9.K y.kids.length q9.e)
  obtain ⟨q5,hq5⟩:=HK.out.tmss
  rw [← HY.out,← HL.out]
  refine ⟨q9,AV,nV,cV,q5,rfl,HNV.out.symm,(HST.out.tm.same fun k hk hz=>hch.block k hz (by have:=HSW.out k hk;omega)).mono fun k hk _=>.inl hk,?_,Chg.trans_below HST.out.bel hch (fun _ e=>by omega) HST.out.bel.size⟩
  exact (hq5.same fun k hk hz=>hch.block k hz (by rcases hk with hk | hk;have:=HSW.out k hk;omega;omega)).mono fun k hk _=>hk.imp id (fun h=>by omega)
end Go.Proofs.Ytdboloabpjmgaaa

namespace Go.Proofs.Ytdboloabpjmgaaa
open Go.RowKit Go.Proofs.YtdboloabpjmgaaaW.PrintWords Go.RegionInvYtdboloabpjmgaaa Go.RegionEYtdboloabpjmgaaa

theorem hn_nodeG {x:Tm} (hl:leafT x=true) (l:Lv) (ls:List Lv) (h2:slB l x.lv=true) (h7:lvsSl ls x.ls=true):hnB (.mk x.kind (if x.kind=1 then x.num else 0) (if x.kind=7 then x.name else noName) (if x.kind=2 then l else .mk 0 0 []) (if x.kind=7 then ls else []) []) x=true:=by
 have e1:leafR (.mk x.kind (if x.kind=1 then x.num else 0) (if x.kind=7 then x.name else noName) (if x.kind=2 then l else .mk 0 0 []) (if x.kind=7 then ls else []) [])=leafR x:=by
  have:=node_leafR hl
  unfold leafR at this ⊢
  exact this
 unfold hnB
 rw [e1]
 show (decide (x.kind=x.kind) && (leafR x == leafR x) && (leafR x || (if x.kind=1 then decide ((if x.kind=1 then x.num else 0)=x.num) else if x.kind=2 then slB (if x.kind=2 then l else .mk 0 0 []) x.lv else if x.kind=7 then ((if x.kind=7 then x.name else noName).toList == x.name.toList) && lvsSl (if x.kind=7 then ls else []) x.ls else true)))=true
 rw [decide_eq_true rfl]
 simp only [beq_self_eq_true,Bool.true_and]
 by_cases h1:x.kind=1
 ·rw [if_pos h1,if_pos h1];simp
 ·by_cases k2:x.kind=2
  ·rw [if_neg h1,if_pos k2,if_pos k2,h2];simp
  ·by_cases k7:x.kind=7
   ·rw [if_neg h1,if_neg k2,if_pos k7,if_pos k7,if_pos k7,h7];simp
   ·rw [if_neg h1,if_neg k2,if_neg k7];simp
theorem nr_reb {F:Tm→Int→Tm} (hF:∀ x e,leafT x=true→Nr (F x e) x) (N:Nat):∀ (t:Tm),SizeOf.sizeOf t<N→∀ b,Nr (rebP F t b) t:=by
 induction N with
 | zero=>intro t h;omega
 | succ N ih =>
  intro t hN b
  cases hl:leafT t with
  | true=>rw [reb_leaf hl];exact hF t b hl
  | false =>
   have hi:∀ i:Fin (nK t),Nr (rebP F (kidF t i) (b+moreZ t i)) (kidF t i):=fun i=>ih _ (by have:=kidF_lt t i;omega) _
   rw [reb_over hl]
   obtain ⟨s1,d1⟩:=size_over F (b:=b) hl
   refine ⟨near_node (over_leaf hl) hl rfl (fun i h1 h2=>?_) (over_nK hl),?_,?_⟩
   ·rw [over_kid i h1 h2]
    exact (hi ⟨i,h2⟩).near
   ·rw [s1,sum_eq _ _ _ fun i _=>(hi i).size,sizeT.eq_def t]
   ·rw [d1,sum_eq _ _ _ fun i _=>(hi i).depth,depthT.eq_def t]
theorem size_leafT {t:Tm} (h:leafT t=true):sizeT t=1:=size_leaf (leaf_nK h)
theorem depth_leafT {t:Tm} (h:leafT t=true):depthT t=1:=depth_leaf (leaf_nK h)
theorem nr_leafG {x y:Tm} (hx:leafT x=true) (hy:nK y=0) (h:hnB y x=true):Nr y x:=
 ⟨by rw [near_leaf (decide_eq_true hy)];exact h,by rw [size_leafT hx,size_leaf hy],by rw [depth_leafT hx,depth_leaf hy]⟩
theorem nr_node {x:Tm} (hl:leafT x=true):Nr (nodeP x) x:=nr_leafG hl (nK_nodeP x) (hn_nodeG hl _ _ (sl_ow _) (lvs_ow _))
theorem sl_ow2 (l:Lv):slB (owP (owP l)) l=true:=by
 cases hs:soundB l with
 | false=>unfold slB;rw [hs];simp
 | true=>rw [own_own hs];exact sl_ow l
theorem lvs_ow2:∀ (ls:List Lv),lvsSl ((ls.map owP).map owP) ls=true
 | []=>rfl
 | x :: r=>by
  show (slB (owP (owP x)) x && lvsSl ((r.map owP).map owP) r)=true
  rw [sl_ow2,lvs_ow2 r];rfl
theorem nr_node2 {x:Tm} (hl:leafT x=true):Nr (nodeP (nodeP x)) x:=by
 have e:nodeP (nodeP x)=.mk x.kind (if x.kind=1 then x.num else 0) (if x.kind=7 then x.name else noName) (if x.kind=2 then owP (owP x.lv) else .mk 0 0 []) (if x.kind=7 then (x.ls.map owP).map owP else []) []:=by
  show Tm.mk x.kind (if x.kind=1 then (if x.kind=1 then x.num else 0) else 0) (if x.kind=7 then (if x.kind=7 then x.name else noName) else noName) (if x.kind=2 then owP (if x.kind=2 then owP x.lv else .mk 0 0 []) else .mk 0 0 []) (if x.kind=7 then (if x.kind=7 then x.ls.map owP else []).map owP else []) []=_
  split <;> split <;> split <;> rfl
 rw [e]
 exact nr_leafG hl (nK_none rfl) (hn_nodeG hl _ _ (sl_ow2 _) (lvs_ow2 _))
def own1 (t:Tm):Tm:=rebP (fun t _=>nodeP t) t 0
theorem reb_any (F:Tm→Tm) (N:Nat):∀ (t:Tm),SizeOf.sizeOf t<N→∀ b c,rebP (fun x _=>F x) t b=rebP (fun x _=>F x) t c:=by
 induction N with
 | zero=>intro t h;omega
 | succ N ih =>
  intro t hN b c
  cases hl:leafT t with
  | true=>rw [reb_leaf hl,reb_leaf hl]
  | false =>
   rw [reb_over hl,reb_over hl]
   unfold overT rebKids
   congr 1
   refine List.map_congr_left fun i _=>?_
   exact ih _ (by have:=kidF_lt t i;omega) _ _
theorem nr_own1 (t:Tm):Nr (own1 t) t:=nr_reb (fun x _ h=>nr_node h) _ t (Nat.lt_succ_self _) 0
theorem nr_own2 (t:Tm):Nr (own1 (own1 t)) t:=by
 unfold own1
 rw [reb2]
 exact nr_reb (fun x e h=>by rw [reb_leaf (leafT_of (nK_nodeP x))];exact nr_node2 h) _ t (Nat.lt_succ_self _) 0
theorem ownT_1 {t:Tm} (h:okT t):ownT t=own1 t:=ownT_ok h
theorem ok_own1 {t:Tm}:okT (own1 t)↔okT t:=(nr_own1 t).ok
theorem own_alike {t:Tm} (h:okT t):alikeT (ownT t) t=true:=by rw [ownT_1 h];exact (nr_own1 t).alike
theorem own_m {t:Tm} (h:TmM t):TmM (ownT t):=by
 unfold ownT
 split
 ·exact reb_m _ _ t (Nat.lt_succ_self _) 0 (fun x e _ hx=>node_m hx) h
 ·exact h
theorem own1_leaf (t:Tm):leafT (own1 t)=leafT t:=by
 unfold own1
 cases hl:leafT t with
 | true=>rw [reb_leaf hl];exact leafT_of (nK_nodeP t)
 | false=>rw [reb_over hl];exact over_leaf hl
theorem own1_kind (t:Tm):(own1 t).kind=t.kind:=by
 unfold own1
 cases hl:leafT t with
 | true=>rw [reb_leaf hl];rfl
 | false=>rw [reb_over hl];rfl
theorem own1_app (t:Tm):((own1 t).kind=6∧nK (own1 t)≠0)↔(t.kind=6∧nK t≠0):=by
 rw [own1_kind]
 have h:=own1_leaf t
 unfold leafT at h
 have h':nK (own1 t)=0↔nK t=0:=decide_eq_decide.1 h
 exact and_congr_right fun _=>not_congr h'
theorem kidF_of {u v:Tm} (e:u=v) {i:Nat} (h3:i<nK u) (h4:i<nK v):kidF u ⟨i,h3⟩=kidF v ⟨i,h4⟩:=by subst e;rfl
theorem own1_kid {t:Tm} (h:t.kind=6∧nK t≠0) {i:Nat} (hi:i<2):kidD (own1 t) i=own1 (kidD t i):=by
 have h2:i<nK t:=by rw [app_two h];exact hi
 have hl:leafT t=false:=decide_eq_false h.2
 have h3:i<nK (own1 t):=by rw [app_two ((own1_app t).2 h)];exact hi
 rw [kidD_eq h3,kidD_eq h2]
 unfold own1 at h3 ⊢
 have e:rebP (fun t _=>nodeP t) t 0=overT (fun t _=>nodeP t) t 0:=reb_over hl
 have h4:i<nK (overT (fun t _=>nodeP t) t 0):=by rw [← e];exact h3
 have:kidF (rebP (fun t _=>nodeP t) t 0) ⟨i,h3⟩=kidF (overT (fun t _=>nodeP t) t 0) ⟨i,h4⟩:=kidF_of e h3 h4
 rw [this,over_kid i h4 h2]
 exact reb_any nodeP _ _ (Nat.lt_succ_self _) _ _
theorem sp_own (N:Nat):∀ (t:Tm),SizeOf.sizeOf t<N→spH (own1 t)=own1 (spH t)∧spA (own1 t)=(spA t).map own1:=by
 induction N with
 | zero=>intro t h;omega
 | succ N ih =>
  intro t hN
  by_cases h:t.kind=6∧nK t≠0
  ·have h':=(own1_app t).2 h
   obtain ⟨i1,i2⟩:=ih (kidD t 0) (by have:=(app_kid h (i:=0) (by decide)).2.1;omega)
   rw [spH_app h',spA_app h',own1_kid h (by decide),own1_kid h (by decide),i1,i2,spH_app h,spA_app h]
   simp
  ·have h':=fun k=>h ((own1_app t).1 k)
   rw [spH_end h',spA_end h',spH_end h,spA_end h]
   simp
theorem sp_ok (N:Nat):∀ (t:Tm),SizeOf.sizeOf t<N→okT t→okT (spH t)∧∀ x∈spA t,okT x:=by
 induction N with
 | zero=>intro t h;omega
 | succ N ih =>
  intro t hN hok
  by_cases h:t.kind=6∧nK t≠0
  ·obtain ⟨-,z0,d0,s0⟩:=app_kid h (i:=0) (by decide)
   obtain ⟨-,z1,d1,s1⟩:=app_kid h (i:=1) (by decide)
   have k0:okT (kidD t 0):=⟨by have:=hok.1;omega,by have:=hok.2;omega⟩
   have k1:okT (kidD t 1):=⟨by have:=hok.1;omega,by have:=hok.2;omega⟩
   obtain ⟨i1,i2⟩:=ih (kidD t 0) (by omega) k0
   rw [spH_app h,spA_app h]
   refine ⟨i1,fun x hx=>?_⟩
   rcases List.mem_append.1 hx with hx | hx
   ·exact i2 x hx
   ·rw [List.mem_singleton.1 hx];exact k1
  ·rw [spH_end h,spA_end h]
   exact ⟨hok,fun x hx=>by simp at hx⟩
theorem sp_m (N:Nat):∀ (t:Tm),SizeOf.sizeOf t<N→TmM t→TmM (spH t)∧∀ x∈spA t,TmM x:=by
 induction N with
 | zero=>intro t h;omega
 | succ N ih =>
  intro t hN hm
  by_cases h:t.kind=6∧nK t≠0
  ·obtain ⟨e0,z0,-,-⟩:=app_kid h (i:=0) (by decide)
   obtain ⟨e1,-,-,-⟩:=app_kid h (i:=1) (by decide)
   obtain ⟨i1,i2⟩:=ih (kidD t 0) (by omega) (hm.kid _ (List.mem_of_getElem? e0))
   rw [spH_app h,spA_app h]
   refine ⟨i1,fun x hx=>?_⟩
   rcases List.mem_append.1 hx with hx | hx
   ·exact i2 x hx
   ·rw [List.mem_singleton.1 hx];exact hm.kid _ (List.mem_of_getElem? e1)
  ·rw [spH_end h,spA_end h]
   exact ⟨hm,fun x hx=>by simp at hx⟩
theorem apps_ok:∀ {xs:List Tm} {f:Tm},okT (appsP f xs)→okT f∧∀ x∈xs,okT x
 | [],f,h=>⟨h,fun x hx=>by simp at hx⟩
 | x :: r,f,h=>by
  obtain ⟨h1,h2⟩:=apps_ok (xs:=r) (f:=appT f x) h
  have s3:sizeT (appT f x)=1+(sizeT f+sizeT x):=by unfold appT;rw [size_app];omega
  have d3:depthT (appT f x)=1+max (depthT f) (depthT x):=by unfold appT;rw [depth_app];omega
  have hf:okT f:=⟨by have:=h1.1;omega,by have:=h1.2;omega⟩
  have hx:okT x:=⟨by have:=h1.1;omega,by have:=h1.2;omega⟩
  refine ⟨hf,fun y hy=>?_⟩
  rcases List.mem_cons.1 hy with rfl | hy
  ·exact hx
  ·exact h2 y hy
def AppsR (f:Tm) (xs:List Tm):Tm:=fitT (appsP f xs)
theorem zero_ok:okT zeroT:=⟨by rw [size_leaf (nK_none rfl)];omega,by rw [depth_leaf (nK_none rfl)];omega⟩
theorem zero_own:own1 zeroT=zeroT:=by unfold own1;rw [reb_leaf (leafT_of rfl)];rfl
theorem makes_pair (f:Tm) (xs:List Tm):okT (AppsT f xs)∧okT (AppsR f xs)∧AppsT f xs=own1 (AppsR f xs):=by
 unfold AppsT AppsR fitT
 by_cases h:okT (appsP f xs)
 ·rw [if_pos h,if_pos h,ownT_1 h]
  exact ⟨ok_own1.2 h,h,rfl⟩
 ·rw [if_neg h,if_neg h,zero_own]
  exact ⟨zero_ok,zero_ok,rfl⟩
theorem makes_alike (f:Tm) (xs:List Tm):alikeT (AppsT f xs) (AppsR f xs)=true:=by
 rw [(makes_pair f xs).2.2]
 exact (nr_own1 _).alike
theorem makes_head (f:Tm) (xs:List Tm):alikeT (ownT (spH (AppsT f xs))) (spH (AppsR f xs))=true:=by
 obtain ⟨h1,h2,h3⟩:=makes_pair f xs
 have hok:=(sp_ok _ _ (Nat.lt_succ_self _) h1).1
 rw [ownT_1 hok,h3,(sp_own _ _ (Nat.lt_succ_self _)).1]
 exact (nr_own2 _).alike
theorem makes_args (f:Tm) (xs:List Tm):((spA (AppsT f xs)).map ownT).length=(spA (AppsR f xs)).length∧∀ (i:Nat) (x y:Tm),((spA (AppsT f xs)).map ownT)[i]?=some x→(spA (AppsR f xs))[i]?=some y→alikeT x y=true:=by
 obtain ⟨h1,h2,h3⟩:=makes_pair f xs
 have hok:=(sp_ok _ _ (Nat.lt_succ_self _) h1).2
 have e:(spA (AppsT f xs)).map ownT=(spA (AppsR f xs)).map fun x=>own1 (own1 x):=by
  rw [List.map_congr_left (g:=own1) fun x hx=>ownT_1 (hok x hx),h3,(sp_own _ _ (Nat.lt_succ_self _)).2,List.map_map]
  rfl
 rw [e]
 refine ⟨by simp,fun i x y hx hy=>?_⟩
 rw [List.getElem?_map,hy] at hx
 obtain rfl:own1 (own1 y)=x:=by simpa using hx
 exact (nr_own2 y).alike
theorem app_m {f x:Tm} (h:TmM f) (hx:TmM x):TmM (appT f x):=.mk lvM_zero (fun y hy=>by simp at hy) fun y hy=>by
 simp only [List.mem_cons,List.not_mem_nil,or_false] at hy
 rcases hy with rfl | rfl
 ·exact h
 ·exact hx
theorem apps_m:∀ {xs:List Tm} {f:Tm},TmM f→(∀ x∈xs,TmM x)→TmM (appsP f xs)
 | [],f,h,_=>h
 | x :: r,f,h,hx=>apps_m (xs:=r) (f:=appT f x) (app_m h (hx x (by simp))) fun y hy=>hx y (by simp [hy])
theorem appsR_m {f:Tm} {xs:List Tm} (h:TmM f) (hx:∀ x∈xs,TmM x):TmM (AppsR f xs):=by
 unfold AppsR fitT
 split
 ·exact apps_m h hx
 ·exact zero_m
theorem appsT_m {f:Tm} {xs:List Tm} (h:TmM f) (hx:∀ x∈xs,TmM x):TmM (AppsT f xs):=by
 unfold AppsT
 split
 ·exact own_m (apps_m h hx)
 ·exact zero_m
end Go.Proofs.Ytdboloabpjmgaaa

namespace Go.Proofs.Ytdboloabpjmgaaa
open Go.RowKit Go.Proofs.YtdboloabpjmgaaaW.PrintWords Go.RegionInvYtdboloabpjmgaaa Go.RegionEYtdboloabpjmgaaa

set_option maxRecDepth 100000 in
set_option maxHeartbeats 8000000 in
theorem raw_calls (S:Nat→Prop) (g0:Nat) (hS:∀ k,S k→k<g0) (f:Tm) (pf:Pl) (L:Option Addr) (n c:Nat) (q:Nat→Pl) (xs:List Tm) (w:World) (hg0:g0≤w.heap.size) (hn:n=xs.length) (hn9:n≤140737488355328) (hf:TmS w S pf f) (hin:TmsS w S L q xs) :
  Calls Try.prog 74 #[tmV pf f,.slice L n c] w (TmGot w S (appsP f xs)):=by
 have HIN:=Ak hin
 have HN:=Ak hn
 have HSW:=Ak (show ∀ k,S k→k<w.heap.size from fun k h=>Nat.lt_of_lt_of_le (hS k h) hg0)
 obtain ⟨W,hW⟩:∃ W,W=(w.alloc (tmO pf f)).alloc (outK 0 (.slice none 0 0)):=⟨_,rfl⟩
 have HB:=Ak (show Below w.heap.size w W by rw [hW];exact below_alloc (below_alloc (Below.refl _ _) _) _)
 have HO:=Ak (show W.heap[w.heap.size]?=some (tmO pf f) by rw [hW];exact box0 w _ _)
 have HX:=Ak (show W.heap[w.heap.size+1]?=some (outK 0 (.slice none 0 0)) by rw [hW];exact box1 w _ _)
 have HZ:=Ak (show W.heap.size=w.heap.size+1+1 by rw [hW];simp)
 have HF:=Ak (show TmS W (fun k=>S k∨w.heap.size+1+1≤k) pf f from TmS.mono (TmS.stay hf hS (HB.out.mono hg0)) fun k h _=>.inl h)
 have HY:=Ak (rfl:appsP f xs=appsP f xs)
 clear hin hn hf
 unfold tmV
 unfold tmO at hW
 go_enter Try.func74,Try.ntmps74
 go_upto_region 1 with (fail)
 rw [← hW]
 clear hW
 go_wp2
 go_loopw [9] (fun i wr=>∃ (k:Nat) (p:Pl),i=.int .i64 k∧k≤n∧Aside0 (wr.heap[w.heap.size]?=some (tmO p (appsP f (xs.take k))))∧Aside0 (wr.heap[w.heap.size+1]?=some (outK 0 (.slice none 0 0)))∧Aside0 (TmS wr (fun k=>S k∨w.heap.size+1+1≤k) p (appsP f (xs.take k)))∧Aside0 (Below w.heap.size w wr)∧w.heap.size+1+1≤wr.heap.size) (fun i _=>n - (intOf i).toNat)
 case atStart=>exact ⟨0,pf,rfl,Nat.zero_le _,HO,HX,HF,HB,by have:=HZ.out;omega⟩
 case round =>
  clear HB HX HO HF HZ
  obtain ⟨k,p,rfl,hk,HO,HX,HF,HB,hzw⟩:=hrel
  by_cases hlt:k<n
  ·have hlt2:k<xs.length:=by rw [← HN.out];exact hlt
   obtain ⟨x,hx⟩:∃ x,xs[k]?=some x:=⟨_,List.getElem?_eq_getElem hlt2⟩
   have HTK:=Ak (show appsP f (xs.take (k+1))=appT (appsP f (xs.take k)) x by rw [List.take_add_one,hx,← appsP_snoc];rfl)
   obtain ⟨z,hz⟩:∃ z,z=appsP f (xs.take k):=⟨_,rfl⟩
   rw [← hz] at HTK HO HF
   obtain ⟨⟨bk,oo,hL,hSb,hcells⟩,hxin⟩:=HIN.out k x hx
   have hbk:∀ j v,(tmC (q k) x)[j]?=some v→wr.cell? ⟨bk,oo+k * 8+j,none⟩=some v:=fun j v hv=>(cell_same (HB.out.block bk (HSW.out _ hSb))).trans (hcells j v hv)
   have d0:=hbk 0 _ rfl
   have d1:=hbk 1 _ rfl
   have d2:=hbk 2 _ rfl
   have d3:=hbk 3 _ rfl
   have d4:=hbk 4 _ rfl
   have d5:=hbk 5 _ rfl
   have d6:=hbk 6 _ rfl
   have d7:=hbk 7 _ rfl
   rw [Nat.add_zero] at d0
   have HLL:=Ak hL
   have HXIN:=Ak (show TmS wr S (q k) x from hxin.same fun j hj _=>HB.out.block j (HSW.out _ hj))
   rw [hL]
   clear hL hcells hbk hx hlt2 hxin hz hSb
   go_upto_region 4 with (fail)
   obtain ⟨W5,hW5⟩:∃ W5,W5=wr.alloc (tmO (q k) x):=⟨_,rfl⟩
   have hB5:Below wr.heap.size wr W5:=by rw [hW5];exact below_alloc (Below.refl _ _) _
   have HBX5:=Ak (show W5.heap[wr.heap.size]?=some (tmO (q k) x) by rw [hW5];exact blk_new _ _)
   have HO5:=Ak ((hB5.block _ (by omega)).trans HO.out)
   have HX5:=Ak ((hB5.block _ (by omega)).trans HX.out)
   have HIN5:=Ak (HXIN.out.later hB5)
   have HF5:=Ak (HF.out.later hB5)
   have HBW5:=Ak (below_then HB.out HB.out.size hB5)
   have hz5:wr.heap.size<W5.heap.size:=blk_lt HBX5.out
   clear hB5
   unfold tmO at hW5
   rw [← hW5]
   clear hW5 HO HX HF d0 d1 d2 d3 d4 d5 d6 d7
   go_upto_region 5 with (first
    | (refine wpList_load_row rfl 28 _ rfl (w.heap.size) rfl 28 _ (0,0) _ HO5.out Try.underlying28 rfl (by kernel_rfl) ?_)
    | (refine wpList_load_row rfl 28 _ rfl (wr.heap.size) rfl 28 _ (0,0) _ HBX5.out Try.underlying28 rfl (by kernel_rfl) ?_)
    | (go_at_call 19;go_must (refine (refapp_calls (fun j=>(S j∨w.heap.size+1+1≤j)∧j<W5.heap.size) W5.heap.size (fun j h=>h.2) p z (q k) x W5 (Nat.le_refl _) (HF5.out.mono fun j h hz=>⟨h,hz⟩) (HIN5.out.mono fun j h hz=>⟨.inl h,hz⟩)).mono ?_;rintro e w6 ⟨q9,rfl,ht9,hb6⟩;have HT6:=Ak ht9;have HO6:=Ak ((hb6.block _ (by omega)).trans HO5.out);have HX6:=Ak ((hb6.block _ (by omega)).trans HX5.out);have HB6:=Ak (below_then HBW5.out HBW5.out.size hb6);have hz6:=hb6.size;obtain ⟨y,hy⟩:∃ y,y=appT z x:=⟨_,rfl⟩;rw [← hy] at HT6 ⊢;have HYY:=Ak hy;obtain ⟨o0,o1,o2,o3,o4,o5,o6,o7,f0,f1,f2,f3,f4,f5,f6,f7⟩:=row8c HO6.out;clear ht9 hb6 hy;unfold tmV)))
   go_wp2
   go_roundw
   case rel =>
    have hch:=chg_set8 w6 (w.heap.size) (.int .i64 y.kind) (.int .i64 y.num) (.string y.name) (.int .i64 y.lv.kind) (.int .i64 y.lv.num) (.slice q9.A y.lv.kids.length q9.c) (.slice q9.B y.ls.length q9.d) (.slice q9.K y.kids.length q9.e)
    have hzc:=hch.size
    refine ⟨k+1,q9,by go_num,by omega,⟨?_⟩,⟨(hch.block _ (blk_lt HX6.out) (by omega)).trans HX6.out⟩,⟨?_⟩,⟨Chg.trans_below HB6.out hch (fun _ e=>by omega) HB6.out.size⟩,by omega⟩
    ·rw [HTK.out,← HYY.out];exact set8 HO6.out
    ·rw [HTK.out,← HYY.out]
     exact (HT6.out.same fun j hj hz=>hch.block j hz (by rcases hj with ⟨hj | hj,-⟩ | hj;have:=HSW.out j hj;omega;omega;omega)).mono fun j hj _=>hj.elim And.left fun h=>.inr (by omega)
   case measure=>(simp [intOf];try omega)
  ·obtain rfl:k=n:=by omega
   have hlt':decide ((k:Int)<k)=false:=by simp
   have hfull:xs.take k=xs:=List.take_of_length_le (by rw [HN.out];exact Nat.le_refl _)
   rw [hfull] at HO HF
   clear hfull HIN HN
   obtain ⟨y,hy⟩:∃ y,y=appsP f xs:=⟨_,rfl⟩
   rw [← hy] at HO HF
   have HYE:=Ak hy
   obtain ⟨r0,r1,r2,r3,r4,r5,r6,r7,f0,f1,f2,f3,f4,f5,f6,f7⟩:=row8c HX.out
   clear hy
   go_wp2_with (refine wpList_load_row rfl 28 _ rfl (w.heap.size) rfl 28 _ (0,0) _ HO.out Try.underlying28 rfl (by kernel_rfl) ?_)
   refine bodyPost_ret (results_c rfl _ _ (w.heap.size+1) 28 #[.int .i64 y.kind,.int .i64 y.num,.string y.name,.int .i64 y.lv.kind,.int .i64 y.lv.num,.slice p.A y.lv.kids.length p.c,.slice p.B y.ls.length p.d,.slice p.K y.kids.length p.e] (0,0) _ rfl (set8 HX.out) Try.underlying28 rfl (by kernel_rfl)) rfl ?_
   rw [← HYE.out]
   exact tm_retS (g0:=w.heap.size) (g:=w.heap.size+1) (m:=w.heap.size+1+1) HF.out (chg_set8 wr (w.heap.size+1) (.int .i64 y.kind) (.int .i64 y.num) (.string y.name) (.int .i64 y.lv.kind) (.int .i64 y.lv.num) (.slice p.A y.lv.kids.length p.c) (.slice p.B y.ls.length p.d) (.slice p.K y.kids.length p.e)) (Nat.le_refl _) (by omega) (by omega) HB.out HSW.out
end Go.Proofs.Ytdboloabpjmgaaa

namespace Go.Proofs.Ytdboloabpjmgaaa
open Go.RowKit Go.Proofs.YtdboloabpjmgaaaW.PrintWords Go.RegionInvYtdboloabpjmgaaa Go.RegionEYtdboloabpjmgaaa

theorem appsP_cut (f:Tm) (xs:List Tm) (k:Nat):appsP f xs=appsP (appsP f (xs.take k)) (xs.drop k):=by
 unfold appsP
 rw [← List.foldl_append,List.take_append_drop]
theorem appsR_cut {f:Tm} {xs:List Tm} {k:Nat} (h:¬ okT (appsP f (xs.take k))):AppsR f xs=zeroT:=by
 unfold AppsR
 refine fitT_no fun h2=>h ?_
 rw [appsP_cut f xs k] at h2
 exact (apps_ok h2).1
theorem appsR_arg {f x:Tm} {xs:List Tm} (hx:x∈xs) (h:¬ okT x):AppsR f xs=zeroT:=by
 unfold AppsR
 exact fitT_no fun h2=>h ((apps_ok h2).2 x hx)
theorem size_appP (f x:Tm):sizeT (appT f x)=sizeT f+(sizeT x+1):=by unfold appT;rw [size_app];omega
theorem size_lt0 (t:Tm):1≤sizeT t:=size_pos t
set_option maxRecDepth 100000 in
set_option maxHeartbeats 8000000 in
theorem rApps_calls (S:Nat→Prop) (g0:Nat) (hS:∀ k,S k→k<g0) (f:Tm) (pf:Pl) (L:Option Addr) (n c:Nat) (q:Nat→Pl) (xs:List Tm) (w:World) (hg0:g0≤w.heap.size) (hn:n=xs.length) (hn9:n≤1000) (hf:TmS w S pf f) (hin:TmsS w S L q xs) :
  Calls Try.prog 33 #[tmV pf f,.slice L n c] w (TmGot w S (AppsR f xs)):=by
 have HIN:=Ak hin
 have HN:=Ak hn
 have HSW:=Ak (show ∀ k,S k→k<w.heap.size from fun k h=>Nat.lt_of_lt_of_le (hS k h) hg0)
 obtain ⟨W,hW⟩:∃ W,W=(w.alloc (tmO pf f)).alloc (outK 0 (.slice none 0 0)):=⟨_,rfl⟩
 have HB:=Ak (show Below w.heap.size w W by rw [hW];exact below_alloc (below_alloc (Below.refl _ _) _) _)
 have HO:=Ak (show W.heap[w.heap.size]?=some (tmO pf f) by rw [hW];exact box0 w _ _)
 have HX:=Ak (show W.heap[w.heap.size+1]?=some (outK 0 (.slice none 0 0)) by rw [hW];exact box1 w _ _)
 have HZ:=Ak (show W.heap.size=w.heap.size+1+1 by rw [hW];simp)
 have HF:=Ak (TmS.stay hf hS (HB.out.mono hg0))
 have HF2:=Ak hf
 have HME:=Ak (show (measP f).1=if okT f then (sizeT f:Int) else 0 by
  by_cases h:okT f
  ·rw [meas_yes h,if_pos h]
  ·rw [meas_no h,if_neg h])
 clear hin hn hf
 unfold tmV
 unfold tmO at hW
 go_enter Try.func33,Try.ntmps33
 go_upto_region 1 with (fail)
 rw [← hW]
 clear hW
 obtain ⟨s0,hs0⟩:∃ s,s=(measP f).1:=⟨_,rfl⟩
 have HS0:=Ak hs0
 clear hs0
 go_upto_region 2 with (first
  | (refine wpList_load_row rfl 28 _ rfl (w.heap.size) rfl 28 _ (0,0) _ HO.out Try.underlying28 rfl (by kernel_rfl) ?_)
  | (go_at_call 21;go_must (refine (refSize_calls f pf W (TmS.all HF.out)).mono ?_;rw [← HS0.out];rintro e w1 ⟨rfl,hb⟩;have HO1:=Ak ((hb.block _ (blk_lt HO.out)).trans HO.out);have HX1:=Ak ((hb.block _ (blk_lt HX.out)).trans HX.out);have HB1:=Ak (below_then HB.out HB.out.size hb);have HF1:=Ak (HF.out.later hb);have HZ1:=Ak (show w.heap.size+1+1≤w1.heap.size by have:=hb.size;have:=HZ.out;omega);clear hb)))
 clear HO HX HB HF HZ
 by_cases hok:okT f
 ·have hsz:s0=(sizeT f:Int):=by rw [HS0.out,HME.out,if_pos hok]
  have hs1:=size_lt0 f
  have hs2:=hok.1
  have HOK:=Ak hok
  have hne:(s0 == 0)=false:=by simp;omega
  have HSZ:=Ak hsz
  have hsr:1≤s0∧s0≤20000:=by omega
  clear hok hsz hs1 hs2
  go_upto_region 4 with (fail)
  go_wp2
  go_loopw [5,16] (fun u i wr=>∃ (k:Nat) (m:Int),i=.int .i64 k∧u=.int .i64 m∧k≤n∧1≤m∧m≤20000∧Aside0 (m=(sizeT (appsP f (xs.take k)):Int))∧Aside0 (wr.heap[w.heap.size]?=some (tmO pf f))∧Aside0 (wr.heap[w.heap.size+1]?=some (outK 0 (.slice none 0 0)))∧Aside0 (Below w.heap.size w wr)∧w.heap.size+1+1≤wr.heap.size) (fun _ i _=>n - (intOf i).toNat)
  case atStart=>exact ⟨0,s0,rfl,rfl,Nat.zero_le _,hsr.1,hsr.2,⟨by rw [HSZ.out];rfl⟩,HO1,HX1,HB1,HZ1.out⟩
  case round =>
   clear HO1 HX1 HB1 HF1 HZ1
   obtain ⟨k,m,rfl,rfl,hk,hm0,hm1,HM,HO,HX,HB,hzw⟩:=hrel
   by_cases hlt:k<n
   ·have hlt2:k<xs.length:=by rw [← HN.out];exact hlt
    obtain ⟨x,hx⟩:∃ x,xs[k]?=some x:=⟨_,List.getElem?_eq_getElem hlt2⟩
    have HTK:=Ak (show appsP f (xs.take (k+1))=appT (appsP f (xs.take k)) x by rw [List.take_add_one,hx,← appsP_snoc];rfl)
    have HMEM:=Ak (List.mem_of_getElem? hx)
    obtain ⟨⟨bk,oo,hL,hSb,hcells⟩,hxin⟩:=HIN.out k x hx
    have hbk:∀ j v,(tmC (q k) x)[j]?=some v→wr.cell? ⟨bk,oo+k * 8+j,none⟩=some v:=fun j v hv=>(cell_same (HB.out.block bk (HSW.out _ hSb))).trans (hcells j v hv)
    have d0:=hbk 0 _ rfl
    have d1:=hbk 1 _ rfl
    have d2:=hbk 2 _ rfl
    have d3:=hbk 3 _ rfl
    have d4:=hbk 4 _ rfl
    have d5:=hbk 5 _ rfl
    have d6:=hbk 6 _ rfl
    have d7:=hbk 7 _ rfl
    rw [Nat.add_zero] at d0
    have HXIN:=Ak (show TmS wr S (q k) x from hxin.same fun j hj _=>HB.out.block j (HSW.out _ hj))
    have HXM:=Ak (show (measP x).1=if okT x then (sizeT x:Int) else 0 by
     by_cases h:okT x
     ·rw [meas_yes h,if_pos h]
     ·rw [meas_no h,if_neg h])
    obtain ⟨s1,hs1⟩:∃ s,s=(measP x).1:=⟨_,rfl⟩
    have HS1:=Ak hs1
    have HLQ:=Ak hL
    rw [hL]
    clear hL hcells hbk hx hlt2 hxin hSb hs1
    go_upto_region 7 with (fail)
    obtain ⟨W5,hW5⟩:∃ W5,W5=wr.alloc (tmO (q k) x):=⟨_,rfl⟩
    have hB5:Below wr.heap.size wr W5:=by rw [hW5];exact below_alloc (Below.refl _ _) _
    have HBX5:=Ak (show W5.heap[wr.heap.size]?=some (tmO (q k) x) by rw [hW5];exact blk_new _ _)
    have HO5:=Ak ((hB5.block _ (by omega)).trans HO.out)
    have HX5:=Ak ((hB5.block _ (by omega)).trans HX.out)
    have HIN5:=Ak (HXIN.out.later hB5)
    have HB5:=Ak (below_then HB.out HB.out.size hB5)
    have hz5:wr.heap.size<W5.heap.size:=blk_lt HBX5.out
    clear hB5
    unfold tmO at hW5
    rw [← hW5]
    clear hW5 HO HX HB d0 d1 d2 d3 d4 d5 d6 d7
    have hsr1:0≤s1∧s1≤20000:=by
     rw [HS1.out,HXM.out]
     split
     ·rename_i h;have:=h.1;omega
     ·omega
    have e1:wrap64 (s1+1)=s1+1:=by unfold wrap64;omega
    have e2:wrap64 (m+(s1+1))=m+(s1+1):=by unfold wrap64;omega
    go_upto_region 9 with (first
     | (refine wpList_load_row rfl 28 _ rfl (wr.heap.size) rfl 28 _ (0,0) _ HBX5.out Try.underlying28 rfl (by kernel_rfl) ?_)
     | (go_at_call 21;go_must (refine (refSize_calls x (q k) W5 (TmS.all HIN5.out)).mono ?_;rw [← HS1.out];rintro e w6 ⟨rfl,hb6⟩;have HO6:=Ak ((hb6.block _ (by omega)).trans HO5.out);have HX6:=Ak ((hb6.block _ (by omega)).trans HX5.out);have HB6:=Ak (below_then HB5.out HB5.out.size hb6);have hz6:=hb6.size;clear hb6)))
    by_cases hgood:okT x∧m+(s1+1)≤20000
    ·have hs1e:s1=(sizeT x:Int):=by rw [HS1.out,HXM.out,if_pos hgood.1]
     have hne1:(s1 == 0)=false:=by have:=size_lt0 x;simp;omega
     have hgt:¬ 20000<m+(s1+1):=by omega
     have HMN:=Ak (show m+(s1+1)=(sizeT (appsP f (xs.take (k+1))):Int) by rw [HTK.out,size_appP];have:=HM.out;omega)
     have hml:m+(s1+1)≤20000:=hgood.2
     clear hgood hs1e
     go_wp2
     go_roundw
     case rel=>exact ⟨k+1,m+(s1+1),by go_num,by go_num,by omega,by omega,hml,HMN,HO6,HX6,HB6,by omega⟩
     case measure=>(simp [intOf];try omega)
    ·have HE:=Ak (show AppsR f xs=zeroT by
      by_cases hx1:okT x
      ·refine appsR_cut (k:=k+1) fun h=>?_
       have hs1e:s1=(sizeT x:Int):=by rw [HS1.out,HXM.out,if_pos hx1]
       have h1:=h.1
       rw [HTK.out,size_appP] at h1
       have h2:¬ m+(s1+1)≤20000:=fun h=>hgood ⟨hx1,h⟩
       have:=HM.out
       omega
      ·exact appsR_arg HMEM.out hx1)
     have hcase:s1=0∨(s1≠0∧20000<m+(s1+1)):=by
      by_cases hx1:okT x
      ·right
       have hs1e:s1=(sizeT x:Int):=by rw [HS1.out,HXM.out,if_pos hx1]
       have:=size_lt0 x
       have h2:¬ m+(s1+1)≤20000:=fun h=>hgood ⟨hx1,h⟩
       omega
      ·left;rw [HS1.out,HXM.out,if_neg hx1]
     obtain ⟨r0,r1,r2,r3,r4,r5,r6,r7,f0,f1,f2,f3,f4,f5,f6,f7⟩:=row8c HX6.out
     clear hgood
     rcases hcase with hc | ⟨hc0,hc1⟩
     ·have hne1:(s1 == 0)=true:=by simp [hc]
      clear hc
      go_wp2
      refine bodyPost_ret (results_c rfl _ _ (w.heap.size+1) 28 #[.int .i64 0,.int .i64 0,.string ⟨#[]⟩,.int .i64 0,.int .i64 0,.slice none 0 0,.slice none 0 0,.slice none 0 0] (0,0) _ rfl (set8 HX6.out) Try.underlying28 rfl (by kernel_rfl)) rfl ?_
      rw [HE.out]
      exact tm_retS (S:=S) (g0:=w.heap.size) (y:=zeroT) (q:=plz) (g:=w.heap.size+1) (m:=w.heap.size+2) (zeroT_flat _ _) (chg_set8 w6 (w.heap.size+1) (.int .i64 0) (.int .i64 0) (.string ⟨#[]⟩) (.int .i64 0) (.int .i64 0) (.slice none 0 0) (.slice none 0 0) (.slice none 0 0)) (Nat.le_refl _) (by omega) (by omega) HB6.out HSW.out
     ·have hne1:(s1 == 0)=false:=by simp [hc0]
      clear hc0
      go_wp2
      refine bodyPost_ret (results_c rfl _ _ (w.heap.size+1) 28 #[.int .i64 0,.int .i64 0,.string ⟨#[]⟩,.int .i64 0,.int .i64 0,.slice none 0 0,.slice none 0 0,.slice none 0 0] (0,0) _ rfl (set8 HX6.out) Try.underlying28 rfl (by kernel_rfl)) rfl ?_
      rw [HE.out]
      exact tm_retS (S:=S) (g0:=w.heap.size) (y:=zeroT) (q:=plz) (g:=w.heap.size+1) (m:=w.heap.size+2) (zeroT_flat _ _) (chg_set8 w6 (w.heap.size+1) (.int .i64 0) (.int .i64 0) (.string ⟨#[]⟩) (.int .i64 0) (.int .i64 0) (.slice none 0 0) (.slice none 0 0) (.slice none 0 0)) (Nat.le_refl _) (by omega) (by omega) HB6.out HSW.out
   ·obtain rfl:k=n:=by omega
    have hlt':decide ((k:Int)<k)=false:=by simp
    have HF6:=Ak (show TmS wr S pf f from HF2.out.same fun j hj _=>HB.out.block j (HSW.out _ hj))
    have HIN6:=Ak (show TmsS wr S L q xs from HIN.out.same fun j hj _=>HB.out.block j (HSW.out _ hj))
    obtain ⟨z,hz⟩:∃ z,z=appsP f xs:=⟨_,rfl⟩
    have HZE:=Ak hz
    obtain ⟨y,hy⟩:∃ y,y=fitT z:=⟨_,rfl⟩
    have HYE:=Ak (show AppsR f xs=y by rw [hy,hz];rfl)
    have HYF:=Ak hy
    clear hy hz
    go_wp2_with (first
     | (refine wpList_load_row rfl 28 _ rfl (w.heap.size) rfl 28 _ (0,0) _ HO.out Try.underlying28 rfl (by kernel_rfl) ?_)
     | (go_at_call 74;go_must (refine (raw_calls S w.heap.size HSW.out f pf L k c q xs wr HB.out.size HN.out (by omega) HF6.out HIN6.out).mono ?_;rw [← HZE.out];rintro e w6 ⟨q8,rfl,ht8,hb6⟩;have HT8:=Ak (ht8.mono (S':=fun j=>(S j∨wr.heap.size≤j)∧j<w6.heap.size) fun j h hz=>⟨h,hz⟩);have HX6:=Ak ((hb6.block _ (by omega)).trans HX.out);have HB6:=Ak (below_then HB.out HB.out.size hb6);have hz6:=hb6.size;clear ht8 hb6;unfold tmV))
     | (go_at_call 65;go_must (refine (fitsG_calls (fun j=>(S j∨wr.heap.size≤j)∧j<w6.heap.size) w6.heap.size (fun j h=>h.2) z q8 w6 (Nat.le_refl _) HT8.out).mono ?_;rw [← HYF.out];rintro e w7 ⟨q9,rfl,ht9,hb7⟩;have HT9:=Ak ht9;have HX7:=Ak ((hb7.block _ (by omega)).trans HX6.out);have HB7:=Ak (below_then HB6.out HB6.out.size hb7);have hz7:=hb7.size;obtain ⟨r0,r1,r2,r3,r4,r5,r6,r7,f0,f1,f2,f3,f4,f5,f6,f7⟩:=row8c HX7.out;clear ht9 hb7;unfold tmV)))
    refine bodyPost_ret (results_c rfl _ _ (w.heap.size+1) 28 #[.int .i64 y.kind,.int .i64 y.num,.string y.name,.int .i64 y.lv.kind,.int .i64 y.lv.num,.slice q9.A y.lv.kids.length q9.c,.slice q9.B y.ls.length q9.d,.slice q9.K y.kids.length q9.e] (0,0) _ rfl (set8 HX7.out) Try.underlying28 rfl (by kernel_rfl)) rfl ?_
    rw [HYE.out]
    exact tm_retS (S:=S) (g0:=w.heap.size) (g:=w.heap.size+1) (m:=w.heap.size+1+1) (HT9.out.mono fun j h _=>by
     rcases h with ⟨h | h,_⟩ | h
     ·exact .inl h
     ·exact .inr (by omega)
     ·exact .inr (by omega)) (chg_set8 w7 (w.heap.size+1) (.int .i64 y.kind) (.int .i64 y.num) (.string y.name) (.int .i64 y.lv.kind) (.int .i64 y.lv.num) (.slice q9.A y.lv.kids.length q9.c) (.slice q9.B y.ls.length q9.d) (.slice q9.K y.kids.length q9.e)) (Nat.le_refl _) (by omega) (by omega) HB7.out HSW.out
 ·have hsz:s0=0:=by rw [HS0.out,HME.out,if_neg hok]
  have hne:(s0 == 0)=true:=by simp [hsz]
  have HE:=Ak (show AppsR f xs=zeroT from fitT_no fun h=>hok (apps_ok h).1)
  obtain ⟨r0,r1,r2,r3,r4,r5,r6,r7,f0,f1,f2,f3,f4,f5,f6,f7⟩:=row8c HX1.out
  clear hok hsz
  go_wp2
  have hz1:=HZ1.out
  refine bodyPost_ret (results_c rfl _ _ (w.heap.size+1) 28 #[.int .i64 0,.int .i64 0,.string ⟨#[]⟩,.int .i64 0,.int .i64 0,.slice none 0 0,.slice none 0 0,.slice none 0 0] (0,0) _ rfl (set8 HX1.out) Try.underlying28 rfl (by kernel_rfl)) rfl ?_
  rw [HE.out]
  exact tm_retS (S:=S) (g0:=w.heap.size) (y:=zeroT) (q:=plz) (g:=w.heap.size+1) (m:=w.heap.size+2) (zeroT_flat _ _) (chg_set8 w1 (w.heap.size+1) (.int .i64 0) (.int .i64 0) (.string ⟨#[]⟩) (.int .i64 0) (.int .i64 0) (.slice none 0 0) (.slice none 0 0) (.slice none 0 0)) (Nat.le_refl _) (by omega) (by omega) HB1.out HSW.out
end Go.Proofs.Ytdboloabpjmgaaa
