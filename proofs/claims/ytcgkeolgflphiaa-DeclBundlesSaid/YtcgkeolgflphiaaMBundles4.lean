/-
  Merged: TkR, DrU, DrId, DrV, DrX, RrA, RrB, RrC, RrD, RrE, RrF, RrG, RrH, RrI, RrXR, NfF, NfG, NfS, Sz, Sim, SmR, Same, Cnt.
-/
import Derived.Test.YtcgkeolgflphiaaMBundles3
set_option linter.unusedVariables false
set_option linter.unusedSimpArgs false
namespace Go.Proofs.Ytcgkeolgflphiaa
open Go.RowKit Go.Proofs.YtcgkeolgflphiaaW.PrintWords Go.RegionInvYtcgkeolgflphiaa Go.RegionEYtcgkeolgflphiaa
set_option linter.unusedVariables false

theorem dc_one (P:DPl) (d:Dc):(#[.int .i64 d.kind,.string d.nm,.int .i64 d.vars,.int .i64 d.ty.kind,.int .i64 d.ty.num,.string d.ty.name,.int .i64 d.ty.lv.kind,.int .i64 d.ty.lv.num,.slice P.pt.A d.ty.lv.kids.length P.pt.c,.slice P.pt.B d.ty.ls.length P.pt.d,.slice P.pt.K d.ty.kids.length P.pt.e,.int .i64 d.val.kind,.int .i64 d.val.num,.string d.val.name,.int .i64 d.val.lv.kind,.int .i64 d.val.lv.num,.slice P.pv.A d.val.lv.kids.length P.pv.c,.slice P.pv.B d.val.ls.length P.pv.d,.slice P.pv.K d.val.kids.length P.pv.e,.int .i64 d.params,.slice P.C d.cs.length P.e]:Array Value).all (·.oneCell')=true:=all_one (l:=[.int .i64 d.kind,.string d.nm,.int .i64 d.vars,.int .i64 d.ty.kind,.int .i64 d.ty.num,.string d.ty.name,.int .i64 d.ty.lv.kind,.int .i64 d.ty.lv.num,.slice P.pt.A d.ty.lv.kids.length P.pt.c,.slice P.pt.B d.ty.ls.length P.pt.d,.slice P.pt.K d.ty.kids.length P.pt.e,.int .i64 d.val.kind,.int .i64 d.val.num,.string d.val.name,.int .i64 d.val.lv.kind,.int .i64 d.val.lv.num,.slice P.pv.A d.val.lv.kids.length P.pv.c,.slice P.pv.B d.val.ls.length P.pv.d,.slice P.pv.K d.val.kids.length P.pv.e,.int .i64 d.params,.slice P.C d.cs.length P.e]) rfl
theorem dz_one:(#[.int .i64 0,.string ⟨#[]⟩,.int .i64 0,.int .i64 0,.int .i64 0,.string ⟨#[]⟩,.int .i64 0,.int .i64 0,.slice none 0 0,.slice none 0 0,.slice none 0 0,.int .i64 0,.int .i64 0,.string ⟨#[]⟩,.int .i64 0,.int .i64 0,.slice none 0 0,.slice none 0 0,.slice none 0 0,.int .i64 0,.slice none 0 0]:Array Value).all (·.oneCell')=true:=all_one (l:=[.int .i64 0,.string ⟨#[]⟩,.int .i64 0,.int .i64 0,.int .i64 0,.string ⟨#[]⟩,.int .i64 0,.int .i64 0,.slice none 0 0,.slice none 0 0,.slice none 0 0,.int .i64 0,.int .i64 0,.string ⟨#[]⟩,.int .i64 0,.int .i64 0,.slice none 0 0,.slice none 0 0,.slice none 0 0,.int .i64 0,.slice none 0 0]) rfl
abbrev dz:Dc:=⟨0,⟨#[]⟩,0,noT,noT,0,[]⟩
def tk4_ops:List Oper:=[
 { dst:=some 17,op:=Go.Op.build 30 #[],type:=30,pos:= "decl.go:289",after:=#[],guard:=none },
 { dst:=some 18,op:=Go.Op.move (Go.Operand.tmp 5),type:=97,pos:= "decl.go:289",after:=#[{ on:=6,ground:=Go.Ground.gcOnly Go.Departure.lateStores }],guard:=none },
 { dst:=some 19,op:=Go.Op.nilCheck (Go.Operand.tmp 18),type:=0,pos:= "decl.go:289",after:=#[{ on:=1,ground:=Go.Ground.data },{ on:=6,ground:=Go.Ground.gcOnly Go.Departure.lateStores }],guard:=none },
 { dst:=some 20,op:=Go.Op.fieldAddr 99 (Go.Operand.tmp 19) 3,type:=0,pos:= "decl.go:289",after:=#[{ on:=2,ground:=Go.Ground.data },{ on:=6,ground:=Go.Ground.gcOnly Go.Departure.lateStores }],guard:=none },
 { dst:=some 21,op:=Go.Op.load 32 (Go.Operand.tmp 20),type:=32,pos:= "decl.go:289",after:=#[{ on:=3,ground:=Go.Ground.data },{ on:=6,ground:=Go.Ground.gcOnly Go.Departure.lateStores }],guard:=none },
 { dst:=none,op:=Go.Op.store 30 (Go.Operand.tmp 2) (Go.Operand.tmp 17),type:=0,pos:= "decl.go:289",after:=#[{ on:=0,ground:=Go.Ground.data },{ on:=0,ground:=Go.Ground.phase },{ on:=1,ground:=Go.Ground.textOnly Go.Departure.lateStores },{ on:=2,ground:=Go.Ground.textOnly Go.Departure.lateStores },{ on:=3,ground:=Go.Ground.textOnly Go.Departure.lateStores },{ on:=4,ground:=Go.Ground.textOnly Go.Departure.lateStores }],guard:=none },
 { dst:=some 3,op:=Go.Op.assign (Go.Operand.const (Go.Value.int Go.IntKind.i64 0)),type:=3,pos:= "decl.go:289",after:=#[{ on:=5,ground:=Go.Ground.chain },{ on:=0,ground:=Go.Ground.phase },{ on:=1,ground:=Go.Ground.textOnly Go.Departure.lateStores },{ on:=2,ground:=Go.Ground.textOnly Go.Departure.lateStores },{ on:=3,ground:=Go.Ground.textOnly Go.Departure.lateStores },{ on:=4,ground:=Go.Ground.textOnly Go.Departure.lateStores },{ on:=5,ground:=Go.Ground.phase }],guard:=none },
 { dst:=some 4,op:=Go.Op.assign (Go.Operand.tmp 21),type:=32,pos:= "decl.go:289",after:=#[{ on:=4,ground:=Go.Ground.data },{ on:=6,ground:=Go.Ground.chain },{ on:=0,ground:=Go.Ground.phase },{ on:=1,ground:=Go.Ground.phase },{ on:=2,ground:=Go.Ground.phase },{ on:=3,ground:=Go.Ground.phase },{ on:=4,ground:=Go.Ground.phase },{ on:=5,ground:=Go.Ground.phase },{ on:=6,ground:=Go.Ground.phase }],guard:=none }]
def tk4_F (w0:World) (gR gi n6 c6:Nat) (A6:Option Addr) (N6 m6 er:Int):Nat→(Nat→Value)→Value→World→(Nat→Prop)→Prop:=fun rix=>match rix with
 | 0=>fun _ v _ _=>v=.agg #[.int .i64 0,.string ⟨#[]⟩,.int .i64 0,.int .i64 0,.int .i64 0,.string ⟨#[]⟩,.int .i64 0,.int .i64 0,.slice none 0 0,.slice none 0 0,.slice none 0 0,.int .i64 0,.int .i64 0,.string ⟨#[]⟩,.int .i64 0,.int .i64 0,.slice none 0 0,.slice none 0 0,.slice none 0 0,.int .i64 0,.slice none 0 0]
 | 1=>fun _ v _ _=>v=.pointer (some ⟨gi,0,none⟩)
 | 2=>fun _ v _ _=>v=.pointer (some ⟨gi,0,none⟩)
 | 3=>fun _ v _ _=>v=.pointer (some ⟨gi,3,none⟩)
 | 4=>fun _ v _ _=>v=.int .i64 er
 | 5=>fun τ v w O=>w.heap[gR]?=some (dzO)∧O gR
 | 6=>fun _ v _ _=>v=.int .i64 0
 | 7=>fun _ v _ _=>v=.int .i64 er
 | _=>fun _ _ _ _=>True
def tk4_C:Nat→List Nat:=fun rix=>match rix with
 | _=>[]
theorem tk4_nw2:nwB tk4_ops.toArray 2=true:=by kernel_rfl
theorem tk4_nw5:nwB tk4_ops.toArray 5=true:=by kernel_rfl
set_option maxRecDepth 100000 in
set_option maxHeartbeats 8000000 in
theorem tk4_obs (w0:World) (gR gi n6 c6:Nat) (A6:Option Addr) (N6 m6 er:Int) (hR:w0.heap[gR]?=some dzO) (hI:w0.heap[gi]?=some (rdB A6 n6 c6 N6 m6 er)) (hn2:gi≠gR) (Q:Exit→Act→World→Prop) (a0:Act) (hi2:a0.tmps.getD 2 undef=.pointer (some ⟨gR,0,none⟩)) (hi3:a0.tmps.getD 3 undef=.int .i64 0) (hi4:a0.tmps.getD 4 undef=.int .i64 0) (hi5:a0.tmps.getD 5 undef=.pointer (some ⟨gi,0,none⟩)) :
  ObsE Try.prog tk4_ops.toArray Q (est2 5 0 (fun k=>k=gR) (fun _=>False)) tk4_C (tk4_F w0 gR gi n6 c6 A6 N6 m6 er) a0 w0 tk4_ops.toArray.toList 0:=by
 have nw2:=tk4_nw2
 have nw5:=tk4_nw5
 refine ⟨?_,?_,?_,?_,?_,?_,?_,?_,trivial⟩
 ·refine ⟨⟨fun τ=>stableE_det _,leans_not⟩,?_⟩
  intro a w O hk
  exact obE_run (wanted_none rfl) (by unfold execOp;simp only [List.map_toArray,List.map_nil];kernel_rfl) rfl
 ·refine ⟨⟨fun τ=>stableE_det _,leans_not⟩,?_⟩
  intro a w O hk
  have e5:a.eval (.tmp 5)=.pointer (some ⟨gi,0,none⟩):=(hk.init 5 (initialB_of_nw nw5)).trans hi5
  exact toE (ob_move rfl e5 (wanted_none rfl) rfl)
 ·refine ⟨⟨fun τ=>stableE_det _,leans_not⟩,?_⟩
  intro a w O hk
  have e18:a.eval (.tmp 18)=.pointer (some ⟨gi,0,none⟩):=hk.fact 1 _ 18 rfl rfl rfl rfl
  exact obE_run (wanted_none rfl) (by unfold execOp;simp only [];rw [e18];go_simp) rfl
 ·refine ⟨⟨fun τ=>stableE_det _,leans_not⟩,?_⟩
  intro a w O hk
  have e19:a.eval (.tmp 19)=.pointer (some ⟨gi,0,none⟩):=hk.fact 2 _ 19 rfl rfl rfl rfl
  exact obE_run (wanted_none rfl) (by unfold execOp;simp only [];rw [e19];go_simp) rfl
 ·refine ⟨⟨fun τ=>stableE_det _,leans_not⟩,?_⟩
  intro a w O hk
  have e20:a.eval (.tmp 20)=.pointer (some ⟨gi,3,none⟩):=hk.fact 3 _ 20 rfl rfl rfl rfl
  have xI:=(hk.fix gi (est2_fix (blk_lt hI) (fun e=>hn2 e) (fun e=>e))).trans hI
  have c3:=(row4 xI).2.2.2.1
  exact obE_run (wanted_none rfl) (by unfold execOp;simp only [];rw [e20];go_simp) rfl
 ·refine ⟨⟨fun τ=>(fun v w w' O h hz hk=>⟨(hk gR (blk_lt h.1) (.inr h.2)).trans h.1,h.2⟩),leans_not⟩,?_⟩
  intro a w O hk
  have e2:a.eval (.tmp 2)=.pointer (some ⟨gR,0,none⟩):=(hk.init 2 (initialB_of_nw nw2)).trans hi2
  have e17:a.eval (.tmp 17)=.agg #[.int .i64 0,.string ⟨#[]⟩,.int .i64 0,.int .i64 0,.int .i64 0,.string ⟨#[]⟩,.int .i64 0,.int .i64 0,.slice none 0 0,.slice none 0 0,.slice none 0 0,.int .i64 0,.int .i64 0,.string ⟨#[]⟩,.int .i64 0,.int .i64 0,.slice none 0 0,.slice none 0 0,.slice none 0 0,.int .i64 0,.slice none 0 0]:=hk.fact 0 _ 17 rfl rfl rfl rfl
  have xR:=(hk.est 5 _ rfl (.inl rfl) gR (.inl ⟨rfl,rfl⟩)).trans hR
  have hs:=run_storeVar_row (P:=Try.prog) w gR 30 30 _ #[.int .i64 0,.string ⟨#[]⟩,.int .i64 0,.int .i64 0,.int .i64 0,.string ⟨#[]⟩,.int .i64 0,.int .i64 0,.slice none 0 0,.slice none 0 0,.slice none 0 0,.int .i64 0,.int .i64 0,.string ⟨#[]⟩,.int .i64 0,.int .i64 0,.slice none 0 0,.slice none 0 0,.slice none 0 0,.int .i64 0,.slice none 0 0] xR (by kernel_rfl) rfl (dz_one)
  refine obE_store (w':=w.setRow gR #[.int .i64 0,.string ⟨#[]⟩,.int .i64 0,.int .i64 0,.int .i64 0,.string ⟨#[]⟩,.int .i64 0,.int .i64 0,.slice none 0 0,.slice none 0 0,.slice none 0 0,.int .i64 0,.int .i64 0,.string ⟨#[]⟩,.int .i64 0,.int .i64 0,.slice none 0 0,.slice none 0 0,.slice none 0 0,.int .i64 0,.slice none 0 0]) (fun k=>k=gR) (wanted_none rfl) (by unfold execOp;simp only [];rw [e2,e17];simp only [Instr.storeAt,Instr.sureAddr,Sem.run_bind,Sem.run_pure,Result.andThen_ok,hs]) ⟨rfl,rfl,rfl,Nat.le_of_eq (size_setRow _ _ _).symm,fun k _ hn=>setRow_other w gR k _ (fun e=>hn (.inr (.inl ⟨rfl,e⟩)))⟩ ⟨setRow_heap w gR _ _ _ _ xR,rfl⟩ (fun k h=>.inl (.inr (.inl ⟨rfl,h⟩)))
 ·refine ⟨⟨fun τ=>stableE_det _,leans_not⟩,?_⟩
  intro a w O hk
  exact toE (ob_assign rfl rfl (wanted_none rfl) rfl)
 ·refine ⟨⟨fun τ=>stableE_det _,leans_not⟩,?_⟩
  intro a w O hk
  have e21:a.eval (.tmp 21)=.int .i64 er:=hk.fact 4 _ 21 rfl rfl rfl rfl
  exact toE (ob_assign rfl e21 (wanted_none rfl) rfl)
set_option maxRecDepth 100000 in
set_option maxHeartbeats 8000000 in
theorem tk4_region {Q:Exit→Act→World→Prop} {id:Nat} (w0:World) (gR gi n6 c6:Nat) (A6:Option Addr) (N6 m6 er:Int) {s0 s1 s6 s7 s8 s9 s10 s11 s12 s13 s14 s15 s16 s17 s18 s19 s20 s21 s22 s23 s24 s25 s26 s27 s28 s29 s30:Value} (hR:w0.heap[gR]?=some dzO) (hI:w0.heap[gi]?=some (rdB A6 n6 c6 N6 m6 er)) (hn2:gi≠gR)
  (hend:∀ (w':World) (v5:Value) (O5:Nat→Prop),Chg (fun k=>(fun k=>k=gR) k∨(fun _=>False) k) w0 w'→(w'.heap[gR]?=some (dzO)∧O5 gR)→(∀ k,O5 k→k<w'.heap.size∧¬ Fix w0 (est2 5 0 (fun k=>k=gR) (fun _=>False)) k)→Q .normal { tmps:=(s0 :: s1 :: (.pointer (some ⟨gR,0,none⟩)) :: (.int .i64 0) :: (.int .i64 er) :: (.pointer (some ⟨gi,0,none⟩)) :: s6 :: s7 :: s8 :: s9 :: s10 :: s11 :: s12 :: s13 :: s14 :: s15 :: s16 :: (.agg #[.int .i64 0,.string ⟨#[]⟩,.int .i64 0,.int .i64 0,.int .i64 0,.string ⟨#[]⟩,.int .i64 0,.int .i64 0,.slice none 0 0,.slice none 0 0,.slice none 0 0,.int .i64 0,.int .i64 0,.string ⟨#[]⟩,.int .i64 0,.int .i64 0,.slice none 0 0,.slice none 0 0,.slice none 0 0,.int .i64 0,.slice none 0 0]) :: (.pointer (some ⟨gi,0,none⟩)) :: (.pointer (some ⟨gi,0,none⟩)) :: (.pointer (some ⟨gi,3,none⟩)) :: (.int .i64 er) :: s22 :: s23 :: s24 :: s25 :: s26 :: s27 :: s28 :: s29 :: s30 :: []:List Value).toArray,defers:=[] } w') :
  (Code.region id tk4_ops.toArray true).wp Try.prog Q { tmps:=(s0 :: s1 :: (.pointer (some ⟨gR,0,none⟩)) :: (.int .i64 0) :: (.int .i64 0) :: (.pointer (some ⟨gi,0,none⟩)) :: s6 :: s7 :: s8 :: s9 :: s10 :: s11 :: s12 :: s13 :: s14 :: s15 :: s16 :: s17 :: s18 :: s19 :: s20 :: s21 :: s22 :: s23 :: s24 :: s25 :: s26 :: s27 :: s28 :: s29 :: s30 :: []:List Value).toArray,defers:=[] } w0:=by
 refine wp_region_est (by kernel_rfl) (est2 5 0 (fun k=>k=gR) (fun _=>False)) tk4_C (tk4_F w0 gR gi n6 c6 A6 N6 m6 er) (est2_dis (fun _ _ h=>h)) (est2_range (fun k hk=>hk ▸ blk_lt hR) (fun _ h=>h.elim)) (by rfl) (by kernel_rfl) (tk4_obs w0.drew gR gi n6 c6 A6 N6 m6 er hR hI hn2 _ _ rfl rfl rfl rfl) ?_
 intro a w' O hd hs hb hf hf2 ha hsame
 have hl:=slots_eq (ops:=tk4_ops.toArray) [(3,.int .i64 0),(4,.int .i64 er),(17,.agg #[.int .i64 0,.string ⟨#[]⟩,.int .i64 0,.int .i64 0,.int .i64 0,.string ⟨#[]⟩,.int .i64 0,.int .i64 0,.slice none 0 0,.slice none 0 0,.slice none 0 0,.int .i64 0,.int .i64 0,.string ⟨#[]⟩,.int .i64 0,.int .i64 0,.slice none 0 0,.slice none 0 0,.slice none 0 0,.int .i64 0,.slice none 0 0]),(18,.pointer (some ⟨gi,0,none⟩)),(19,.pointer (some ⟨gi,0,none⟩)),(20,.pointer (some ⟨gi,3,none⟩)),(21,.int .i64 er)] (show a.tmps.size=31 from hs) (fun i h=>hsame i h) ⟨(hf 6 _ 3 rfl rfl (by decide)).1,(hf 7 _ 4 rfl rfl (by decide)).1,(hf 0 _ 17 rfl rfl (by decide)).1,(hf 1 _ 18 rfl rfl (by decide)).1,(hf 2 _ 19 rfl rfl (by decide)).1,(hf 3 _ 20 rfl rfl (by decide)).1,(hf 4 _ 21 rfl rfl (by decide)).1,trivial⟩ (by kernel_rfl)
 obtain ⟨tmps,defers⟩:=a
 obtain rfl:defers=[]:=hd
 have hl':tmps=_:=hl
 rw [hl']
 obtain ⟨⟨v5,hv5⟩,ho5⟩:=hf2 5 _ rfl rfl (by decide)
 have hb':=est2_chg hb
 refine Eq.mp ?_ (hend w' v5 (O 5) ⟨hb'.os,hb'.tape,hb'.output,hb'.size,hb'.block⟩ hv5 ho5)
 kernel_rfl

def tk5_ops:List Oper:=[
 { dst:=some 22,op:=Go.Op.load 30 (Go.Operand.tmp 6),type:=30,pos:= "decl.go:291",after:=#[],guard:=none },
 { dst:=some 23,op:=Go.Op.move (Go.Operand.tmp 0),type:=31,pos:= "decl.go:291",after:=#[],guard:=none },
 { dst:=some 24,op:=Go.Op.call { callee:=Go.Callee.builtin Go.Builtin.len,args:=#[Go.Operand.tmp 23],argTypes:=#[31] },type:=3,pos:= "decl.go:291",after:=#[{ on:=1,ground:=Go.Ground.data }],guard:=none },
 { dst:=some 25,op:=Go.Op.move (Go.Operand.tmp 5),type:=97,pos:= "decl.go:291",after:=#[],guard:=none },
 { dst:=some 26,op:=Go.Op.nilCheck (Go.Operand.tmp 25),type:=0,pos:= "decl.go:291",after:=#[{ on:=3,ground:=Go.Ground.data }],guard:=none },
 { dst:=some 27,op:=Go.Op.fieldAddr 99 (Go.Operand.tmp 26) 0,type:=0,pos:= "decl.go:291",after:=#[{ on:=4,ground:=Go.Ground.data }],guard:=none },
 { dst:=some 28,op:=Go.Op.load 31 (Go.Operand.tmp 27),type:=31,pos:= "decl.go:291",after:=#[{ on:=5,ground:=Go.Ground.data }],guard:=none },
 { dst:=some 29,op:=Go.Op.call { callee:=Go.Callee.builtin Go.Builtin.len,args:=#[Go.Operand.tmp 28],argTypes:=#[31] },type:=3,pos:= "decl.go:291",after:=#[{ on:=6,ground:=Go.Ground.data }],guard:=none },
 { dst:=some 30,op:=Go.Op.binOp Go.BinOp.sub 3 (Go.Operand.tmp 24) (Go.Operand.tmp 29) 3,type:=3,pos:= "decl.go:291",after:=#[{ on:=2,ground:=Go.Ground.data },{ on:=7,ground:=Go.Ground.data },{ on:=9,ground:=Go.Ground.gcOnly Go.Departure.lateStores }],guard:=none },
 { dst:=none,op:=Go.Op.store 30 (Go.Operand.tmp 2) (Go.Operand.tmp 22),type:=0,pos:= "decl.go:291",after:=#[{ on:=0,ground:=Go.Ground.data },{ on:=0,ground:=Go.Ground.phase },{ on:=1,ground:=Go.Ground.textOnly Go.Departure.lateStores },{ on:=2,ground:=Go.Ground.textOnly Go.Departure.lateStoresUnsure },{ on:=3,ground:=Go.Ground.textOnly Go.Departure.lateStores },{ on:=4,ground:=Go.Ground.textOnly Go.Departure.lateStores },{ on:=5,ground:=Go.Ground.textOnly Go.Departure.lateStores },{ on:=6,ground:=Go.Ground.textOnly Go.Departure.lateStores },{ on:=7,ground:=Go.Ground.textOnly Go.Departure.lateStoresUnsure },{ on:=8,ground:=Go.Ground.textOnly Go.Departure.lateStores }],guard:=none },
 { dst:=some 3,op:=Go.Op.assign (Go.Operand.tmp 30),type:=3,pos:= "decl.go:291",after:=#[{ on:=8,ground:=Go.Ground.data },{ on:=9,ground:=Go.Ground.chain },{ on:=0,ground:=Go.Ground.phase },{ on:=1,ground:=Go.Ground.phase },{ on:=2,ground:=Go.Ground.phase },{ on:=3,ground:=Go.Ground.phase },{ on:=4,ground:=Go.Ground.phase },{ on:=5,ground:=Go.Ground.phase },{ on:=6,ground:=Go.Ground.phase },{ on:=7,ground:=Go.Ground.phase },{ on:=8,ground:=Go.Ground.phase },{ on:=9,ground:=Go.Ground.phase }],guard:=none },
 { dst:=some 4,op:=Go.Op.assign (Go.Operand.const (Go.Value.int Go.IntKind.i64 0)),type:=32,pos:= "decl.go:291",after:=#[{ on:=10,ground:=Go.Ground.chain },{ on:=0,ground:=Go.Ground.phase },{ on:=1,ground:=Go.Ground.phase },{ on:=2,ground:=Go.Ground.phase },{ on:=3,ground:=Go.Ground.phase },{ on:=4,ground:=Go.Ground.phase },{ on:=5,ground:=Go.Ground.phase },{ on:=6,ground:=Go.Ground.phase },{ on:=7,ground:=Go.Ground.phase },{ on:=8,ground:=Go.Ground.phase },{ on:=9,ground:=Go.Ground.phase },{ on:=10,ground:=Go.Ground.phase }],guard:=none }]
def tk5_F (w0:World) (gR gx gi n n6 c c6:Nat) (A A6:Option Addr) (N6 m6 er:Int) (P:DPl) (d:Dc):Nat→(Nat→Value)→Value→World→(Nat→Prop)→Prop:=fun rix=>match rix with
 | 0=>fun _ v _ _=>v=dcV P d
 | 1=>fun _ v _ _=>v=.slice A n c
 | 2=>fun _ v _ _=>v=.int .i64 n
 | 3=>fun _ v _ _=>v=.pointer (some ⟨gi,0,none⟩)
 | 4=>fun _ v _ _=>v=.pointer (some ⟨gi,0,none⟩)
 | 5=>fun _ v _ _=>v=.pointer (some ⟨gi,0,none⟩)
 | 6=>fun _ v _ _=>v=.slice A6 n6 c6
 | 7=>fun _ v _ _=>v=.int .i64 n6
 | 8=>fun _ v _ _=>v=.int .i64 (IntKind.i64.wrap ((n:Int) - n6))
 | 9=>fun τ v w O=>w.heap[gR]?=some (dcO P d)∧O gR
 | 10=>fun _ v _ _=>v=.int .i64 (IntKind.i64.wrap ((n:Int) - n6))
 | 11=>fun _ v _ _=>v=.int .i64 0
 | _=>fun _ _ _ _=>True
def tk5_C:Nat→List Nat:=fun rix=>match rix with
 | _=>[]
theorem tk5_nw0:nwB tk5_ops.toArray 0=true:=by kernel_rfl
theorem tk5_nw2:nwB tk5_ops.toArray 2=true:=by kernel_rfl
theorem tk5_nw5:nwB tk5_ops.toArray 5=true:=by kernel_rfl
theorem tk5_nw6:nwB tk5_ops.toArray 6=true:=by kernel_rfl
set_option maxRecDepth 100000 in
set_option maxHeartbeats 8000000 in
theorem tk5_obs (w0:World) (gR gx gi n n6 c c6:Nat) (A A6:Option Addr) (N6 m6 er:Int) (P:DPl) (d:Dc) (hR:w0.heap[gR]?=some dzO) (hX:w0.heap[gx]?=some (dcO P d)) (hI:w0.heap[gi]?=some (rdB A6 n6 c6 N6 m6 er)) (hn1:gx≠gR) (hn2:gi≠gR) (Q:Exit→Act→World→Prop) (a0:Act) (hi0:a0.tmps.getD 0 undef=.slice A n c) (hi2:a0.tmps.getD 2 undef=.pointer (some ⟨gR,0,none⟩)) (hi3:a0.tmps.getD 3 undef=.int .i64 0) (hi4:a0.tmps.getD 4 undef=.int .i64 0) (hi5:a0.tmps.getD 5 undef=.pointer (some ⟨gi,0,none⟩)) (hi6:a0.tmps.getD 6 undef=.pointer (some ⟨gx,0,none⟩)) :
  ObsE Try.prog tk5_ops.toArray Q (est2 9 0 (fun k=>k=gR) (fun _=>False)) tk5_C (tk5_F w0 gR gx gi n n6 c c6 A A6 N6 m6 er P d) a0 w0 tk5_ops.toArray.toList 0:=by
 have nw0:=tk5_nw0
 have nw2:=tk5_nw2
 have nw5:=tk5_nw5
 have nw6:=tk5_nw6
 refine ⟨?_,?_,?_,?_,?_,?_,?_,?_,?_,?_,?_,?_,trivial⟩
 ·refine ⟨⟨fun τ=>stableE_det _,leans_not⟩,?_⟩
  intro a w O hk
  have e6:a.eval (.tmp 6)=.pointer (some ⟨gx,0,none⟩):=(hk.init 6 (initialB_of_nw nw6)).trans hi6
  have xX:=(hk.fix gx (est2_fix (blk_lt hX) (fun e=>hn1 e) (fun e=>e))).trans hX
  exact obE_loadRow rfl e6 xX Try.underlying30 rfl (by kernel_rfl) (wanted_none rfl) rfl
 ·refine ⟨⟨fun τ=>stableE_det _,leans_not⟩,?_⟩
  intro a w O hk
  have e0:a.eval (.tmp 0)=.slice A n c:=(hk.init 0 (initialB_of_nw nw0)).trans hi0
  exact toE (ob_move rfl e0 (wanted_none rfl) rfl)
 ·refine ⟨⟨fun τ=>stableE_det _,leans_not⟩,?_⟩
  intro a w O hk
  have e23:a.eval (.tmp 23)=.slice A n c:=hk.fact 1 _ 23 rfl rfl rfl rfl
  exact toE (ob_len rfl e23 Try.underlying31 (wanted_none rfl) rfl)
 ·refine ⟨⟨fun τ=>stableE_det _,leans_not⟩,?_⟩
  intro a w O hk
  have e5:a.eval (.tmp 5)=.pointer (some ⟨gi,0,none⟩):=(hk.init 5 (initialB_of_nw nw5)).trans hi5
  exact toE (ob_move rfl e5 (wanted_none rfl) rfl)
 ·refine ⟨⟨fun τ=>stableE_det _,leans_not⟩,?_⟩
  intro a w O hk
  have e25:a.eval (.tmp 25)=.pointer (some ⟨gi,0,none⟩):=hk.fact 3 _ 25 rfl rfl rfl rfl
  exact obE_run (wanted_none rfl) (by unfold execOp;simp only [];rw [e25];go_simp) rfl
 ·refine ⟨⟨fun τ=>stableE_det _,leans_not⟩,?_⟩
  intro a w O hk
  have e26:a.eval (.tmp 26)=.pointer (some ⟨gi,0,none⟩):=hk.fact 4 _ 26 rfl rfl rfl rfl
  exact obE_run (wanted_none rfl) (by unfold execOp;simp only [];rw [e26];go_simp) rfl
 ·refine ⟨⟨fun τ=>stableE_det _,leans_not⟩,?_⟩
  intro a w O hk
  have e27:a.eval (.tmp 27)=.pointer (some ⟨gi,0,none⟩):=hk.fact 5 _ 27 rfl rfl rfl rfl
  have xI:=(hk.fix gi (est2_fix (blk_lt hI) (fun e=>hn2 e) (fun e=>e))).trans hI
  have c0:=(row4 xI).1
  exact toE (ob_loadSlice rfl e27 Try.underlying31 c0 (wanted_none rfl) rfl)
 ·refine ⟨⟨fun τ=>stableE_det _,leans_not⟩,?_⟩
  intro a w O hk
  have e28:a.eval (.tmp 28)=.slice A6 n6 c6:=hk.fact 6 _ 28 rfl rfl rfl rfl
  exact toE (ob_len rfl e28 Try.underlying31 (wanted_none rfl) rfl)
 ·refine ⟨⟨fun τ=>stableE_det _,leans_not⟩,?_⟩
  intro a w O hk
  have e24:a.eval (.tmp 24)=.int .i64 n:=hk.fact 2 _ 24 rfl rfl rfl rfl
  have e29:a.eval (.tmp 29)=.int .i64 n6:=hk.fact 7 _ 29 rfl rfl rfl rfl
  exact obE_run (wanted_none rfl) (by unfold execOp;simp only [];rw [e24,e29];go_simp) rfl
 ·refine ⟨⟨fun τ=>(fun v w w' O h hz hk=>⟨(hk gR (blk_lt h.1) (.inr h.2)).trans h.1,h.2⟩),leans_not⟩,?_⟩
  intro a w O hk
  have e2:a.eval (.tmp 2)=.pointer (some ⟨gR,0,none⟩):=(hk.init 2 (initialB_of_nw nw2)).trans hi2
  have e22:a.eval (.tmp 22)=dcV P d:=hk.fact 0 _ 22 rfl rfl rfl rfl
  have xR:=(hk.est 9 _ rfl (.inl rfl) gR (.inl ⟨rfl,rfl⟩)).trans hR
  have hs:=run_storeVar_row (P:=Try.prog) w gR 30 30 _ #[.int .i64 d.kind,.string d.nm,.int .i64 d.vars,.int .i64 d.ty.kind,.int .i64 d.ty.num,.string d.ty.name,.int .i64 d.ty.lv.kind,.int .i64 d.ty.lv.num,.slice P.pt.A d.ty.lv.kids.length P.pt.c,.slice P.pt.B d.ty.ls.length P.pt.d,.slice P.pt.K d.ty.kids.length P.pt.e,.int .i64 d.val.kind,.int .i64 d.val.num,.string d.val.name,.int .i64 d.val.lv.kind,.int .i64 d.val.lv.num,.slice P.pv.A d.val.lv.kids.length P.pv.c,.slice P.pv.B d.val.ls.length P.pv.d,.slice P.pv.K d.val.kids.length P.pv.e,.int .i64 d.params,.slice P.C d.cs.length P.e] xR (by kernel_rfl) rfl (dc_one P d)
  refine obE_store (w':=w.setRow gR #[.int .i64 d.kind,.string d.nm,.int .i64 d.vars,.int .i64 d.ty.kind,.int .i64 d.ty.num,.string d.ty.name,.int .i64 d.ty.lv.kind,.int .i64 d.ty.lv.num,.slice P.pt.A d.ty.lv.kids.length P.pt.c,.slice P.pt.B d.ty.ls.length P.pt.d,.slice P.pt.K d.ty.kids.length P.pt.e,.int .i64 d.val.kind,.int .i64 d.val.num,.string d.val.name,.int .i64 d.val.lv.kind,.int .i64 d.val.lv.num,.slice P.pv.A d.val.lv.kids.length P.pv.c,.slice P.pv.B d.val.ls.length P.pv.d,.slice P.pv.K d.val.kids.length P.pv.e,.int .i64 d.params,.slice P.C d.cs.length P.e]) (fun k=>k=gR) (wanted_none rfl) (by unfold execOp;simp only [];rw [e2,e22];simp only [dcV,Instr.storeAt,Instr.sureAddr,Sem.run_bind,Sem.run_pure,Result.andThen_ok,hs]) ⟨rfl,rfl,rfl,Nat.le_of_eq (size_setRow _ _ _).symm,fun k _ hn=>setRow_other w gR k _ (fun e=>hn (.inr (.inl ⟨rfl,e⟩)))⟩ ⟨setRow_heap w gR _ _ _ _ xR,rfl⟩ (fun k h=>.inl (.inr (.inl ⟨rfl,h⟩)))
 ·refine ⟨⟨fun τ=>stableE_det _,leans_not⟩,?_⟩
  intro a w O hk
  have e30:a.eval (.tmp 30)=.int .i64 (IntKind.i64.wrap ((n:Int) - n6)):=hk.fact 8 _ 30 rfl rfl rfl rfl
  exact toE (ob_assign rfl e30 (wanted_none rfl) rfl)
 ·refine ⟨⟨fun τ=>stableE_det _,leans_not⟩,?_⟩
  intro a w O hk
  exact toE (ob_assign rfl rfl (wanted_none rfl) rfl)
set_option maxRecDepth 100000 in
set_option maxHeartbeats 8000000 in
theorem tk5_region {Q:Exit→Act→World→Prop} {id:Nat} (w0:World) (gR gx gi n n6 c c6:Nat) (A A6:Option Addr) (N6 m6 er:Int) (P:DPl) (d:Dc) {s1 s7 s8 s9 s10 s11 s12 s13 s14 s15 s16 s17 s18 s19 s20 s21 s22 s23 s24 s25 s26 s27 s28 s29 s30:Value} (hR:w0.heap[gR]?=some dzO) (hX:w0.heap[gx]?=some (dcO P d)) (hI:w0.heap[gi]?=some (rdB A6 n6 c6 N6 m6 er)) (hn1:gx≠gR) (hn2:gi≠gR)
  (hend:∀ (w':World) (v9:Value) (O9:Nat→Prop),Chg (fun k=>(fun k=>k=gR) k∨(fun _=>False) k) w0 w'→(w'.heap[gR]?=some (dcO P d)∧O9 gR)→(∀ k,O9 k→k<w'.heap.size∧¬ Fix w0 (est2 9 0 (fun k=>k=gR) (fun _=>False)) k)→Q .normal { tmps:=((.slice A n c) :: s1 :: (.pointer (some ⟨gR,0,none⟩)) :: (.int .i64 (IntKind.i64.wrap ((n:Int) - n6))) :: (.int .i64 0) :: (.pointer (some ⟨gi,0,none⟩)) :: (.pointer (some ⟨gx,0,none⟩)) :: s7 :: s8 :: s9 :: s10 :: s11 :: s12 :: s13 :: s14 :: s15 :: s16 :: s17 :: s18 :: s19 :: s20 :: s21 :: (dcV P d) :: (.slice A n c) :: (.int .i64 n) :: (.pointer (some ⟨gi,0,none⟩)) :: (.pointer (some ⟨gi,0,none⟩)) :: (.pointer (some ⟨gi,0,none⟩)) :: (.slice A6 n6 c6) :: (.int .i64 n6) :: (.int .i64 (IntKind.i64.wrap ((n:Int) - n6))) :: []:List Value).toArray,defers:=[] } w') :
  (Code.region id tk5_ops.toArray true).wp Try.prog Q { tmps:=((.slice A n c) :: s1 :: (.pointer (some ⟨gR,0,none⟩)) :: (.int .i64 0) :: (.int .i64 0) :: (.pointer (some ⟨gi,0,none⟩)) :: (.pointer (some ⟨gx,0,none⟩)) :: s7 :: s8 :: s9 :: s10 :: s11 :: s12 :: s13 :: s14 :: s15 :: s16 :: s17 :: s18 :: s19 :: s20 :: s21 :: s22 :: s23 :: s24 :: s25 :: s26 :: s27 :: s28 :: s29 :: s30 :: []:List Value).toArray,defers:=[] } w0:=by
 refine wp_region_est (by kernel_rfl) (est2 9 0 (fun k=>k=gR) (fun _=>False)) tk5_C (tk5_F w0 gR gx gi n n6 c c6 A A6 N6 m6 er P d) (est2_dis (fun _ _ h=>h)) (est2_range (fun k hk=>hk ▸ blk_lt hR) (fun _ h=>h.elim)) (by rfl) (by kernel_rfl) (tk5_obs w0.drew gR gx gi n n6 c c6 A A6 N6 m6 er P d hR hX hI hn1 hn2 _ _ rfl rfl rfl rfl rfl rfl) ?_
 intro a w' O hd hs hb hf hf2 ha hsame
 have hl:=slots_eq (ops:=tk5_ops.toArray) [(3,.int .i64 (IntKind.i64.wrap ((n:Int) - n6))),(4,.int .i64 0),(22,dcV P d),(23,.slice A n c),(24,.int .i64 n),(25,.pointer (some ⟨gi,0,none⟩)),(26,.pointer (some ⟨gi,0,none⟩)),(27,.pointer (some ⟨gi,0,none⟩)),(28,.slice A6 n6 c6),(29,.int .i64 n6),(30,.int .i64 (IntKind.i64.wrap ((n:Int) - n6)))] (show a.tmps.size=31 from hs) (fun i h=>hsame i h) ⟨(hf 10 _ 3 rfl rfl (by decide)).1,(hf 11 _ 4 rfl rfl (by decide)).1,(hf 0 _ 22 rfl rfl (by decide)).1,(hf 1 _ 23 rfl rfl (by decide)).1,(hf 2 _ 24 rfl rfl (by decide)).1,(hf 3 _ 25 rfl rfl (by decide)).1,(hf 4 _ 26 rfl rfl (by decide)).1,(hf 5 _ 27 rfl rfl (by decide)).1,(hf 6 _ 28 rfl rfl (by decide)).1,(hf 7 _ 29 rfl rfl (by decide)).1,(hf 8 _ 30 rfl rfl (by decide)).1,trivial⟩ (by kernel_rfl)
 obtain ⟨tmps,defers⟩:=a
 obtain rfl:defers=[]:=hd
 have hl':tmps=_:=hl
 rw [hl']
 obtain ⟨⟨v9,hv9⟩,ho9⟩:=hf2 9 _ rfl rfl (by decide)
 have hb':=est2_chg hb
 refine Eq.mp ?_ (hend w' v9 (O 9) ⟨hb'.os,hb'.tape,hb'.output,hb'.size,hb'.block⟩ hv9 ho9)
 kernel_rfl

end Go.Proofs.Ytcgkeolgflphiaa

namespace Go.Proofs.Ytcgkeolgflphiaa
open Go.RowKit Go.Proofs.YtcgkeolgflphiaaW.PrintWords Go.RegionInvYtcgkeolgflphiaa

theorem dcB_pos1 (d:Dc):1≤(dcB d).length:=by have:=dcB_len3 d;omega
theorem dz_in (w:World) (S:Nat→Prop):DcS w S pl00 dz:=⟨noT_in _ _,noT_in _ _,⟨Nat.le_refl _,Nat.zero_le _⟩,by decide,fun i c h=>by simp at h⟩
set_option maxRecDepth 100000 in
set_option maxHeartbeats 8000000 in
theorem take1_calls (A:Option Addr) (n c:Nat) (xs:List Int) (w:World) (h:Bs w w.heap.size A n c xs) :
  Calls Try.prog 43 #[.slice A n c] w (TakeP eDc dcV (dcR xs) xs w):=by
 have HS:=Ak h
 have HR1:=Ak (bs_new (O1:=dzO) (N:=0) (m:=0) h)
 have hb1:=below_alloc (below_alloc (Below.refl w.heap.size w) dzO) (rdB A n c 0 0 0)
 have HX1:=Ak (blk_alloc (blk_new w dzO) (rdB A n c 0 0 0))
 have HB1:=Ak hb1
 have HZ1:=Ak (show ((w.alloc dzO).alloc (rdB A n c 0 0 0)).heap.size=w.heap.size+2 by simp)
 clear h hb1
 go_enter Try.func43,Try.ntmps43
 go_upto_region 2 with (fail)
 obtain ⟨W1,hW1⟩:∃ W1,W1=(w.alloc dzO).alloc (rdB A n c 0 0 0):=⟨_,rfl⟩
 rw [← hW1] at HR1 HX1 HB1 HZ1 ⊢
 clear hW1
 go_upto_region 3 with (first
  | (go_at_call 68;go_must (refine (decl_any (w.heap.size+1) (.ok xs) _ ⟨0,0,HR1.out⟩).mono ?_;rintro e w5 ⟨P5,d5,rfl,hl5,hc5,hm5,hv5⟩;have HX5:=Ak ((hc5.block _ (blk_lt HX1.out) (by omega)).trans HX1.out);have HL5:=Ak hl5;have HC5:=Ak hc5;have HV5:=Ak hv5;have HM5:=Ak (RS.box hm5);clear hl5 hc5 hm5 hv5;simp only [dcV]))
  | (refine wpList_store_row rfl 30 _ _ rfl w5.heap.size #[.int .i64 d5.kind,.string d5.nm,.int .i64 d5.vars,.int .i64 d5.ty.kind,.int .i64 d5.ty.num,.string d5.ty.name,.int .i64 d5.ty.lv.kind,.int .i64 d5.ty.lv.num,.slice P5.pt.A d5.ty.lv.kids.length P5.pt.c,.slice P5.pt.B d5.ty.ls.length P5.pt.d,.slice P5.pt.K d5.ty.kids.length P5.pt.e,.int .i64 d5.val.kind,.int .i64 d5.val.num,.string d5.val.name,.int .i64 d5.val.lv.kind,.int .i64 d5.val.lv.num,.slice P5.pv.A d5.val.lv.kids.length P5.pv.c,.slice P5.pv.B d5.val.ls.length P5.pv.d,.slice P5.pv.K d5.val.kids.length P5.pv.e,.int .i64 d5.params,.slice P5.C d5.cs.length P5.e] rfl rfl 30 #[.int .i64 0,.string ⟨#[]⟩,.int .i64 0,.int .i64 0,.int .i64 0,.string ⟨#[]⟩,.int .i64 0,.int .i64 0,.slice none 0 0,.slice none 0 0,.slice none 0 0,.int .i64 0,.int .i64 0,.string ⟨#[]⟩,.int .i64 0,.int .i64 0,.slice none 0 0,.slice none 0 0,.slice none 0 0,.int .i64 0,.slice none 0 0] (blk_new _ _) (by kernel_rfl) rfl (all_one (l:=[.int .i64 d5.kind,.string d5.nm,.int .i64 d5.vars,.int .i64 d5.ty.kind,.int .i64 d5.ty.num,.string d5.ty.name,.int .i64 d5.ty.lv.kind,.int .i64 d5.ty.lv.num,.slice P5.pt.A d5.ty.lv.kids.length P5.pt.c,.slice P5.pt.B d5.ty.ls.length P5.pt.d,.slice P5.pt.K d5.ty.kids.length P5.pt.e,.int .i64 d5.val.kind,.int .i64 d5.val.num,.string d5.val.name,.int .i64 d5.val.lv.kind,.int .i64 d5.val.lv.num,.slice P5.pv.A d5.val.lv.kids.length P5.pv.c,.slice P5.pv.B d5.val.ls.length P5.pv.d,.slice P5.pv.K d5.val.kids.length P5.pv.e,.int .i64 d5.params,.slice P5.C d5.cs.length P5.e]) rfl) ?_))
 obtain ⟨A6,n6,c6,N6,m6,er,hg6,hsem⟩:=HM5.out
 have hbx:=dc_boxed w5 P5 d5
 have HY6:=Ak hbx.1
 have HG6:=Ak (blk_below hg6 hbx.2)
 have HX6:=Ak (blk_below HX5.out hbx.2)
 have HC6:=Ak (chg_trans HC5.out (Chg.of_below hbx.2))
 have HL6:=Ak (HL5.out.same fun k _ hk=>hbx.2.block k hk)
 have HGX:=Ak (show w5.heap.size≠w.heap.size by have:=blk_lt HX5.out;omega)
 obtain ⟨gx,hgx⟩:∃ gx,gx=w5.heap.size:=⟨_,rfl⟩
 obtain ⟨W6,hW6⟩:∃ W6,W6=(w5.alloc (.cells #[.int .i64 0,.string ⟨#[]⟩,.int .i64 0,.int .i64 0,.int .i64 0,.string ⟨#[]⟩,.int .i64 0,.int .i64 0,.slice none 0 0,.slice none 0 0,.slice none 0 0,.int .i64 0,.int .i64 0,.string ⟨#[]⟩,.int .i64 0,.int .i64 0,.slice none 0 0,.slice none 0 0,.slice none 0 0,.int .i64 0,.slice none 0 0] 30 (0,0))).setRow w5.heap.size #[.int .i64 d5.kind,.string d5.nm,.int .i64 d5.vars,.int .i64 d5.ty.kind,.int .i64 d5.ty.num,.string d5.ty.name,.int .i64 d5.ty.lv.kind,.int .i64 d5.ty.lv.num,.slice P5.pt.A d5.ty.lv.kids.length P5.pt.c,.slice P5.pt.B d5.ty.ls.length P5.pt.d,.slice P5.pt.K d5.ty.kids.length P5.pt.e,.int .i64 d5.val.kind,.int .i64 d5.val.num,.string d5.val.name,.int .i64 d5.val.lv.kind,.int .i64 d5.val.lv.num,.slice P5.pv.A d5.val.lv.kids.length P5.pv.c,.slice P5.pv.B d5.val.ls.length P5.pv.d,.slice P5.pv.K d5.val.kids.length P5.pv.e,.int .i64 d5.params,.slice P5.C d5.cs.length P5.e]:=⟨_,rfl⟩
 replace HY6:Aside0 (W6.heap[w5.heap.size]?=some (dcO P5 d5)):=by rw [hW6];exact HY6
 replace HG6:Aside0 (W6.heap[w.heap.size+1]?=some (rdB A6 n6 c6 N6 m6 er)):=by rw [hW6];exact HG6
 replace HX6:Aside0 (W6.heap[w.heap.size]?=some dzO):=by rw [hW6];exact HX6
 replace HC6:Aside0 (Chg (fun k=>k=w.heap.size+1) W1 W6):=by rw [hW6];exact HC6
 replace HL6:Aside0 (DcS W6 (fun b=>W1.heap.size≤b) P5 d5):=by rw [hW6];exact HL6
 rw [← hW6]
 rw [← hgx] at HY6 HGX ⊢
 clear hg6 hgx hW6 hbx HX5 HL5 HC5 HM5
 obtain ⟨-,-,-,c3,-,-,-,-⟩:=row4 HG6.out
 cases hR:dcR xs with
 | error k =>
  have hs2:er=k∧k≠0:=by have h:=hsem;rw [show nextR (.ok xs) dcR=dcR xs from rfl,hR] at h;exact h
  obtain ⟨rfl,hne⟩:=hs2
  have he':(er != 0)=true:=by simp [hne]
  have HNE:=Ak hne
  have HRE:=Ak hR
  clear hR hsem hne
  go_upto_region 4 with (fail)
  refine tk4_region W6 w.heap.size (w.heap.size+1) n6 c6 A6 N6 m6 er HX6.out HG6.out (by omega) ?_
  intro w7 v13 O13 hch hx7 hO
  have HX7:=Ak hx7.1
  have HC7:=Ak (hch.mono (S':=fun k=>k=w.heap.size) fun k h=>h.elim id False.elim)
  clear hch hx7 hO c3
  go_wp2
  refine bodyPost_ret (results_ctt rfl _ _ w.heap.size 30 #[.int .i64 0,.string ⟨#[]⟩,.int .i64 0,.int .i64 0,.int .i64 0,.string ⟨#[]⟩,.int .i64 0,.int .i64 0,.slice none 0 0,.slice none 0 0,.slice none 0 0,.int .i64 0,.int .i64 0,.string ⟨#[]⟩,.int .i64 0,.int .i64 0,.slice none 0 0,.slice none 0 0,.slice none 0 0,.int .i64 0,.slice none 0 0] (0,0) _ rfl HX7.out Try.underlying30 rfl (by kernel_rfl)) rfl ?_
  exact ⟨pl00,dz,0,er,rfl,dz_in _ _,close_below HB1.out HZ1.out HC6.out HC7.out,by rw [HRE.out];exact ⟨rfl,HNE.out⟩⟩
 | ok y =>
  have hs2:er=0:=by have h:=hsem;rw [show nextR (.ok xs) dcR=dcR xs from rfl,hR] at h;exact h.1
  subst hs2
  have HSEM:=Ak hsem
  clear hR hsem
  go_upto_region 5 with (fail)
  refine tk5_region W6 w.heap.size gx (w.heap.size+1) n n6 c c6 A A6 N6 m6 0 P5 d5 HX6.out HY6.out HG6.out HGX.out (by omega) ?_
  intro w7 v13 O13 hch hx7 hO
  have HX7:=Ak hx7.1
  have HC7:=Ak (hch.mono (S':=fun k=>k=w.heap.size) fun k h=>h.elim id False.elim)
  clear hch hx7 hO c3
  go_wp2
  refine bodyPost_ret (results_ctt rfl _ _ w.heap.size 30 #[.int .i64 d5.kind,.string d5.nm,.int .i64 d5.vars,.int .i64 d5.ty.kind,.int .i64 d5.ty.num,.string d5.ty.name,.int .i64 d5.ty.lv.kind,.int .i64 d5.ty.lv.num,.slice P5.pt.A d5.ty.lv.kids.length P5.pt.c,.slice P5.pt.B d5.ty.ls.length P5.pt.d,.slice P5.pt.K d5.ty.kids.length P5.pt.e,.int .i64 d5.val.kind,.int .i64 d5.val.num,.string d5.val.name,.int .i64 d5.val.lv.kind,.int .i64 d5.val.lv.num,.slice P5.pv.A d5.val.lv.kids.length P5.pv.c,.slice P5.pv.B d5.val.ls.length P5.pv.d,.slice P5.pv.K d5.val.kids.length P5.pv.e,.int .i64 d5.params,.slice P5.C d5.cs.length P5.e] (0,0) _ rfl HX7.out Try.underlying30 rfl (by kernel_rfl)) rfl ?_
  exact ⟨P5,d5,_,0,rfl,close_mem eDc (p:=P5) HL6.out HZ1.out HC7.out,close_below HB1.out HZ1.out HC6.out HC7.out,took_of2 (b:=dcB) (R:=dcR xs) (fun t r hk=>dc_put HS.out.bytes hk) dcB_pos1 HS.out.reads.1 HS.out.len HSEM.out HV5.out⟩
end Go.Proofs.Ytcgkeolgflphiaa

namespace Go.Proofs.Ytcgkeolgflphiaa
open Go.RowKit Go.Proofs.YtcgkeolgflphiaaW.PrintWords Go.RegionInvYtcgkeolgflphiaa

theorem infoDcD:(Try.prog.info? 30).map (fun i=>(i.zero,i.size,i.bytes))=some (some (.agg #[.int .i64 0,.string ⟨#[]⟩,.int .i64 0,.int .i64 0,.int .i64 0,.string ⟨#[]⟩,.int .i64 0,.int .i64 0,.slice none 0 0,.slice none 0 0,.slice none 0 0,.int .i64 0,.int .i64 0,.string ⟨#[]⟩,.int .i64 0,.int .i64 0,.slice none 0 0,.slice none 0 0,.slice none 0 0,.int .i64 0,.slice none 0 0]),21,304):=by kernel_rfl
theorem notNil_takeDc (W:World):(binOp .eql 70 (.func (.func 43) #[] #[]) .nilFunc).run Try.prog W=.ok (.bool false) W:=by kernel_rfl
set_option maxRecDepth 100000 in
set_option maxHeartbeats 8000000 in
theorem takeDc_calls (A:Option Addr) (n c:Nat) (xs:List Int) (most:Int) (w:World) (h:Bs w w.heap.size A n c xs) (hm0:0≤most) (hm1:most≤16)  :
  Calls Try.prog 49 #[.slice A n c,.int .i64 most,.func (.func 43) #[] #[]] w (TakeLP eDc (listR most dcR xs) xs w):=by
 have HS:=Ak h
 have hnil:=notNil_takeDc
 have hlen:=h.len
 have hxn:=h.reads.1
 go_enter Try.func49,Try.ntmps49
 rcases takeN_cases h.bytes with hT | hT | ⟨m,k,hT,hm,hk1,hk2⟩
 ·have HE:=Ak (listR_short (most:=most) (f:=dcR) hT (by decide))
  have HT:=Ak hT
  clear hT h hxn
  go_wp2_with (go_at_call 75;go_must (refine (take_calls _ _ _ xs _ HS.out.reads HS.out.bytes hlen).mono ?_;rintro e w' ⟨rfl,hw⟩;obtain rfl:w=w':=hw.symm;rw [HT.out]))
  go_ret3
  exact takeLP_err HE.out (by decide) (Below.refl _ _)
 ·have HE:=Ak (listR_short (most:=most) (f:=dcR) hT (by decide))
  have HT:=Ak hT
  clear hT h hxn
  go_wp2_with (go_at_call 75;go_must (refine (take_calls _ _ _ xs _ HS.out.reads HS.out.bytes hlen).mono ?_;rintro e w' ⟨rfl,hw⟩;obtain rfl:w=w':=hw.symm;rw [HT.out]))
  go_ret3
  exact takeLP_err HE.out (by decide) (Below.refl _ _)
 ·have HT:=Ak hT
  by_cases hlong:most<m
  ·have HE:=Ak (listR_many (f:=dcR) hT hlong)
   clear hT h hxn
   go_wp2_with (go_at_call 75;go_must (refine (take_calls _ _ _ xs _ HS.out.reads HS.out.bytes hlen).mono ?_;rintro e w' ⟨rfl,hw⟩;obtain rfl:w=w':=hw.symm;rw [HT.out]))
   go_ret3
   exact takeLP_err HE.out (by decide) (Below.refl _ _)
  ·have h1:(m:Int)≤most:=by omega
   have HE:=Ak (listR_ok (f:=dcR) hT hlong)
   have hk3:k≤n:=by omega
   have HXN:=Ak hxn
   clear hT h hlong hxn
   go_wp2_with (go_at_call 75;go_must (refine (take_calls _ _ _ xs _ HS.out.reads HS.out.bytes hlen).mono ?_;rintro e w' ⟨rfl,hw⟩;obtain rfl:w=w':=hw.symm;rw [HT.out]))
   go_loopw [9,10,12] (fun u p v wr=>∃ (r at_:Nat) (acc:List Dc),u=.int .u64 r∧p=.int .i64 at_∧r+acc.length≤16∧1≤at_∧at_≤n∧Aside0 (listR most dcR xs=moreR acc (manyR dcR r (xs.drop at_)))∧Aside0 (RowG eDc wr w.heap.size v acc)∧Aside0 (Below w.heap.size w wr)) (fun u _ _ _=>(intOf u).toNat)
   case atStart=>exact ⟨m,k,[],rfl,rfl,by simp;omega,hk1,hk3,HE,⟨RowG.nil _ _ _⟩,⟨Below.refl _ _⟩⟩
   case round =>
    clear HE HT
    obtain ⟨r,at_,acc,rfl,rfl,hr16,hat1,hat,HE,HO,HB⟩:=hrel
    rcases r with _ | r
    ·have HE2:=Ak (show listR most dcR xs=.ok (acc,xs.drop at_) from HE.out.trans moreR_end)
     go_wp2
     go_ret3
     exact ⟨u12,acc,at_,0,rfl,HO.out,HB.out,by rw [HE2.out];exact ⟨rfl,rfl,at_,rfl,hat1,by have:=HXN.out;omega,rfl⟩⟩
    ·obtain ⟨A',hcut,hrd⟩:=cut_old (A:=A) (n:=n) (c:=c) at_ hat
     have HRD:=Ak (hrd wr wr.heap.size xs ((HS.out.chg (S:=fun k=>w.heap.size≤k) (Nat.le_refl _) (fun _ h=>h) (chg_of_base HB.out)).mono HB.out.size))
     have hr1:(((r+1:Nat):Int) == 0)=false:=by simp;omega
     clear hrd
     go_upto_region 12 with (first
      | (go_at_call 43;go_must (refine (take1_calls A' (n - at_) (c - at_) (xs.drop at_) _ HRD.out).mono ?_;rintro e w2 ⟨p,l5,cnt,er,rfl,hmem,hb,htk⟩;obtain ⟨p1,hp1⟩:∃ p1,p1=p:=⟨_,rfl⟩;subst hp1;have HMEM:=Ak hmem;have HB2:=Ak hb;have HTK:=Ak htk;clear hmem hb htk;simp only [dcV]))
      | (refine wpList_store_row rfl 30 _ _ rfl w2.heap.size #[.int .i64 l5.kind,.string l5.nm,.int .i64 l5.vars,.int .i64 l5.ty.kind,.int .i64 l5.ty.num,.string l5.ty.name,.int .i64 l5.ty.lv.kind,.int .i64 l5.ty.lv.num,.slice p1.pt.A l5.ty.lv.kids.length p1.pt.c,.slice p1.pt.B l5.ty.ls.length p1.pt.d,.slice p1.pt.K l5.ty.kids.length p1.pt.e,.int .i64 l5.val.kind,.int .i64 l5.val.num,.string l5.val.name,.int .i64 l5.val.lv.kind,.int .i64 l5.val.lv.num,.slice p1.pv.A l5.val.lv.kids.length p1.pv.c,.slice p1.pv.B l5.val.ls.length p1.pv.d,.slice p1.pv.K l5.val.kids.length p1.pv.e,.int .i64 l5.params,.slice p1.C l5.cs.length p1.e] rfl rfl 30  #[.int .i64 0,.string ⟨#[]⟩,.int .i64 0,.int .i64 0,.int .i64 0,.string ⟨#[]⟩,.int .i64 0,.int .i64 0,.slice none 0 0,.slice none 0 0,.slice none 0 0,.int .i64 0,.int .i64 0,.string ⟨#[]⟩,.int .i64 0,.int .i64 0,.slice none 0 0,.slice none 0 0,.slice none 0 0,.int .i64 0,.slice none 0 0] (blk_new _ _) (by kernel_rfl) rfl (all_one (l:=[.int .i64 l5.kind,.string l5.nm,.int .i64 l5.vars,.int .i64 l5.ty.kind,.int .i64 l5.ty.num,.string l5.ty.name,.int .i64 l5.ty.lv.kind,.int .i64 l5.ty.lv.num,.slice p1.pt.A l5.ty.lv.kids.length p1.pt.c,.slice p1.pt.B l5.ty.ls.length p1.pt.d,.slice p1.pt.K l5.ty.kids.length p1.pt.e,.int .i64 l5.val.kind,.int .i64 l5.val.num,.string l5.val.name,.int .i64 l5.val.lv.kind,.int .i64 l5.val.lv.num,.slice p1.pv.A l5.val.lv.kids.length p1.pv.c,.slice p1.pv.B l5.val.ls.length p1.pv.d,.slice p1.pv.K l5.val.kids.length p1.pv.e,.int .i64 l5.params,.slice p1.C l5.cs.length p1.e]) rfl) ?_))
     have hbx:((w2.alloc (.cells #[.int .i64 0,.string ⟨#[]⟩,.int .i64 0,.int .i64 0,.int .i64 0,.string ⟨#[]⟩,.int .i64 0,.int .i64 0,.slice none 0 0,.slice none 0 0,.slice none 0 0,.int .i64 0,.int .i64 0,.string ⟨#[]⟩,.int .i64 0,.int .i64 0,.slice none 0 0,.slice none 0 0,.slice none 0 0,.int .i64 0,.slice none 0 0] 30 (0,0))).setRow w2.heap.size #[.int .i64 l5.kind,.string l5.nm,.int .i64 l5.vars,.int .i64 l5.ty.kind,.int .i64 l5.ty.num,.string l5.ty.name,.int .i64 l5.ty.lv.kind,.int .i64 l5.ty.lv.num,.slice p1.pt.A l5.ty.lv.kids.length p1.pt.c,.slice p1.pt.B l5.ty.ls.length p1.pt.d,.slice p1.pt.K l5.ty.kids.length p1.pt.e,.int .i64 l5.val.kind,.int .i64 l5.val.num,.string l5.val.name,.int .i64 l5.val.lv.kind,.int .i64 l5.val.lv.num,.slice p1.pv.A l5.val.lv.kids.length p1.pv.c,.slice p1.pv.B l5.val.ls.length p1.pv.d,.slice p1.pv.K l5.val.kids.length p1.pv.e,.int .i64 l5.params,.slice p1.C l5.cs.length p1.e]).heap[w2.heap.size]?=some (.cells #[.int .i64 l5.kind,.string l5.nm,.int .i64 l5.vars,.int .i64 l5.ty.kind,.int .i64 l5.ty.num,.string l5.ty.name,.int .i64 l5.ty.lv.kind,.int .i64 l5.ty.lv.num,.slice p1.pt.A l5.ty.lv.kids.length p1.pt.c,.slice p1.pt.B l5.ty.ls.length p1.pt.d,.slice p1.pt.K l5.ty.kids.length p1.pt.e,.int .i64 l5.val.kind,.int .i64 l5.val.num,.string l5.val.name,.int .i64 l5.val.lv.kind,.int .i64 l5.val.lv.num,.slice p1.pv.A l5.val.lv.kids.length p1.pv.c,.slice p1.pv.B l5.val.ls.length p1.pv.d,.slice p1.pv.K l5.val.kids.length p1.pv.e,.int .i64 l5.params,.slice p1.C l5.cs.length p1.e] 30 (0,0))∧Below w2.heap.size w2 ((w2.alloc (.cells #[.int .i64 0,.string ⟨#[]⟩,.int .i64 0,.int .i64 0,.int .i64 0,.string ⟨#[]⟩,.int .i64 0,.int .i64 0,.slice none 0 0,.slice none 0 0,.slice none 0 0,.int .i64 0,.int .i64 0,.string ⟨#[]⟩,.int .i64 0,.int .i64 0,.slice none 0 0,.slice none 0 0,.slice none 0 0,.int .i64 0,.slice none 0 0] 30 (0,0))).setRow w2.heap.size #[.int .i64 l5.kind,.string l5.nm,.int .i64 l5.vars,.int .i64 l5.ty.kind,.int .i64 l5.ty.num,.string l5.ty.name,.int .i64 l5.ty.lv.kind,.int .i64 l5.ty.lv.num,.slice p1.pt.A l5.ty.lv.kids.length p1.pt.c,.slice p1.pt.B l5.ty.ls.length p1.pt.d,.slice p1.pt.K l5.ty.kids.length p1.pt.e,.int .i64 l5.val.kind,.int .i64 l5.val.num,.string l5.val.name,.int .i64 l5.val.lv.kind,.int .i64 l5.val.lv.num,.slice p1.pv.A l5.val.lv.kids.length p1.pv.c,.slice p1.pv.B l5.val.ls.length p1.pv.d,.slice p1.pv.K l5.val.kids.length p1.pv.e,.int .i64 l5.params,.slice p1.C l5.cs.length p1.e]):=dc_boxed w2 p1 l5
     have hb2:=below_then HB2.out HB2.out.size hbx.2
     have HY:=Ak hbx.1
     have HB3:=Ak (show Below w.heap.size w ((w2.alloc (.cells #[.int .i64 0,.string ⟨#[]⟩,.int .i64 0,.int .i64 0,.int .i64 0,.string ⟨#[]⟩,.int .i64 0,.int .i64 0,.slice none 0 0,.slice none 0 0,.slice none 0 0,.int .i64 0,.int .i64 0,.string ⟨#[]⟩,.int .i64 0,.int .i64 0,.slice none 0 0,.slice none 0 0,.slice none 0 0,.int .i64 0,.slice none 0 0] 30 (0,0))).setRow w2.heap.size #[.int .i64 l5.kind,.string l5.nm,.int .i64 l5.vars,.int .i64 l5.ty.kind,.int .i64 l5.ty.num,.string l5.ty.name,.int .i64 l5.ty.lv.kind,.int .i64 l5.ty.lv.num,.slice p1.pt.A l5.ty.lv.kids.length p1.pt.c,.slice p1.pt.B l5.ty.ls.length p1.pt.d,.slice p1.pt.K l5.ty.kids.length p1.pt.e,.int .i64 l5.val.kind,.int .i64 l5.val.num,.string l5.val.name,.int .i64 l5.val.lv.kind,.int .i64 l5.val.lv.num,.slice p1.pv.A l5.val.lv.kids.length p1.pv.c,.slice p1.pv.B l5.val.ls.length p1.pv.d,.slice p1.pv.K l5.val.kids.length p1.pv.e,.int .i64 l5.params,.slice p1.C l5.cs.length p1.e]) from below_then HB.out HB.out.size hb2)
     have HO3:=Ak (RowG.later HO.out hb2)
     have HM3:=Ak (eDc.beside HO.out HB.out.size (eDc.same (w':=(w2.alloc (.cells #[.int .i64 0,.string ⟨#[]⟩,.int .i64 0,.int .i64 0,.int .i64 0,.string ⟨#[]⟩,.int .i64 0,.int .i64 0,.slice none 0 0,.slice none 0 0,.slice none 0 0,.int .i64 0,.int .i64 0,.string ⟨#[]⟩,.int .i64 0,.int .i64 0,.slice none 0 0,.slice none 0 0,.slice none 0 0,.int .i64 0,.slice none 0 0] 30 (0,0))).setRow w2.heap.size #[.int .i64 l5.kind,.string l5.nm,.int .i64 l5.vars,.int .i64 l5.ty.kind,.int .i64 l5.ty.num,.string l5.ty.name,.int .i64 l5.ty.lv.kind,.int .i64 l5.ty.lv.num,.slice p1.pt.A l5.ty.lv.kids.length p1.pt.c,.slice p1.pt.B l5.ty.ls.length p1.pt.d,.slice p1.pt.K l5.ty.kids.length p1.pt.e,.int .i64 l5.val.kind,.int .i64 l5.val.num,.string l5.val.name,.int .i64 l5.val.lv.kind,.int .i64 l5.val.lv.num,.slice p1.pv.A l5.val.lv.kids.length p1.pv.c,.slice p1.pv.B l5.val.ls.length p1.pv.d,.slice p1.pv.K l5.val.kids.length p1.pv.e,.int .i64 l5.params,.slice p1.C l5.cs.length p1.e]) HMEM.out fun k hk hz=>hbx.2.block k hz))
     obtain ⟨gx,hgx⟩:∃ gx,gx=w2.heap.size:=⟨_,rfl⟩
     obtain ⟨W3,hW3⟩:∃ W3,W3=(w2.alloc (.cells #[.int .i64 0,.string ⟨#[]⟩,.int .i64 0,.int .i64 0,.int .i64 0,.string ⟨#[]⟩,.int .i64 0,.int .i64 0,.slice none 0 0,.slice none 0 0,.slice none 0 0,.int .i64 0,.int .i64 0,.string ⟨#[]⟩,.int .i64 0,.int .i64 0,.slice none 0 0,.slice none 0 0,.slice none 0 0,.int .i64 0,.slice none 0 0] 30 (0,0))).setRow w2.heap.size #[.int .i64 l5.kind,.string l5.nm,.int .i64 l5.vars,.int .i64 l5.ty.kind,.int .i64 l5.ty.num,.string l5.ty.name,.int .i64 l5.ty.lv.kind,.int .i64 l5.ty.lv.num,.slice p1.pt.A l5.ty.lv.kids.length p1.pt.c,.slice p1.pt.B l5.ty.ls.length p1.pt.d,.slice p1.pt.K l5.ty.kids.length p1.pt.e,.int .i64 l5.val.kind,.int .i64 l5.val.num,.string l5.val.name,.int .i64 l5.val.lv.kind,.int .i64 l5.val.lv.num,.slice p1.pv.A l5.val.lv.kids.length p1.pv.c,.slice p1.pv.B l5.val.ls.length p1.pv.d,.slice p1.pv.K l5.val.kids.length p1.pv.e,.int .i64 l5.params,.slice p1.C l5.cs.length p1.e]:=⟨_,rfl⟩
     rw [← hW3] at HY HB3 HO3 HM3 ⊢
     rw [← hgx] at HY ⊢
     clear hbx hb2
     clear hgx hW3 HMEM HB2 HRD hcut
     skip
     cases hf1:dcR (xs.drop at_) with
     | error ee =>
      have htk:=HTK.out
      rw [hf1] at htk
      obtain ⟨rfl,hne⟩:=htk
      have hne':(er != 0)=true:=by simp [hne]
      have HK:=Ak (HE.out.trans (moreR_bad hf1))
      have HNE:=Ak hne
      clear hf1 hne HTK
      go_wp2
      go_ret3
      exact takeLP_err HK.out HNE.out HB3.out
     | ok y =>
      obtain ⟨x',r'⟩:=y
      have htk:=HTK.out
      rw [hf1] at htk
      obtain ⟨hxx,rfl,u,rfl,hu1,hu2,hrr⟩:=htk
      subst hxx
      have HK:=Ak (HE.out.trans (moreR_next hf1))
      have hu3:at_+u≤n:=by have:=HXN.out;rw [List.length_drop] at hu2;omega
      have HRR:=Ak (show r'=xs.drop (at_+u) by rw [hrr,List.drop_drop])
      obtain ⟨cs,q,hown,hcs⟩:=HO3.out
      have HOWN:=Ak hown
      have HCS:=Ak hcs
      clear hf1 HTK hown hcs hrr hu2
      go_wp2_with (first | (refine wpList_load_row rfl 30 _ rfl gx rfl 30 _ (0,0) _ HY.out Try.underlying30 rfl (by kernel_rfl) ?_) | (at_builtin;go_must (refine print_append_cells (w0:=W3) w.heap.size rfl (.tmp 65) (.tmp 67) 42 30 _ 21 304 rfl Try.underlying42 infoDcD rfl (by decide) (by decide) u12 acc.length cs [.int .i64 l5.kind,.string l5.nm,.int .i64 l5.vars,.int .i64 l5.ty.kind,.int .i64 l5.ty.num,.string l5.ty.name,.int .i64 l5.ty.lv.kind,.int .i64 l5.ty.lv.num,.slice p1.pt.A l5.ty.lv.kids.length p1.pt.c,.slice p1.pt.B l5.ty.ls.length p1.pt.d,.slice p1.pt.K l5.ty.kids.length p1.pt.e,.int .i64 l5.val.kind,.int .i64 l5.val.num,.string l5.val.name,.int .i64 l5.val.lv.kind,.int .i64 l5.val.lv.num,.slice p1.pv.A l5.val.lv.kids.length p1.pv.c,.slice p1.pv.B l5.val.ls.length p1.pv.d,.slice p1.pv.K l5.val.kids.length p1.pv.e,.int .i64 l5.params,.slice p1.C l5.cs.length p1.e] rfl rfl rfl (List.all_eq_true.1 rfl) HOWN.out (Below.refl _ _) HB3.out.size (by omega) ?_;intro v3 w3 ho hb hg hat;have HO4:=Ak (RowG.push (E:=eDc) HOWN.out HCS.out HM3.out ho hg hat);have HB4:=Ak (HB3.out.trans hb);clear ho hb hg hat)))
      go_roundw
      case rel=>exact ⟨r,at_+u,acc ++ [l5],by go_num,by go_num,by simp only [List.length_append,List.length_singleton];omega,by omega,hu3,⟨by rw [HK.out,HRR.out]⟩,HO4,HB4⟩
      case measure=>(simp [intOf];try omega)
end Go.Proofs.Ytcgkeolgflphiaa

namespace Go.Proofs.Ytcgkeolgflphiaa
open Go.RowKit Go.Proofs.YtcgkeolgflphiaaW.PrintWords Go.RegionInvYtcgkeolgflphiaa

def endR {α:Type}:Except Int (α × List Int)→Except Int α
 | .error e=>.error e
 | .ok (x,r)=>if r≠[] then .error 4 else .ok x
def EndP {α:Type} (x:α) (er:Int):Except Int α→Prop
 | .ok y=>x=y∧er=0
 | .error k=>er=k∧k≠0
theorem endR_form {α:Type} {x:α} {xs:List Int} {u:Nat} {R:Except Int (α × List Int)} (h:R=.ok (x,xs.drop u)) (hu:u<xs.length):endR R=.error 4:=by
 subst h
 simp only [endR]
 rw [if_pos]
 intro h
 have:=List.drop_eq_nil_iff.1 h
 omega
theorem endR_ok {α:Type} {x:α} {xs:List Int} {u:Nat} {R:Except Int (α × List Int)} (h:R=.ok (x,xs.drop u)) (hu:u=xs.length):endR R=.ok x:=by
 subst h
 simp only [endR]
 rw [if_neg]
 rw [hu,List.drop_length]
 exact fun h=>h rfl
set_option maxHeartbeats 4000000 in
theorem unb1_calls (A:Option Addr) (n c:Nat) (xs:List Int) (w:World) (h:Bs w w.heap.size A n c xs) :
  Calls Try.prog 48 #[.slice A n c] w (TakeLP eDc (listR 16 dcR xs) xs w):=by
 have HS:=Ak h
 clear h
 go_enter Try.func48,Try.ntmps48
 go_wp2_with (go_at_call 49;go_must (refine (takeDc_calls A n c xs 16 _ HS.out (by decide) (by decide)).mono ?_;rintro e w2 ⟨V,l,cnt,er,rfl,hrow,hb,htk⟩;have HROW:=Ak hrow;have HB:=Ak hb;have HTK:=Ak htk;clear hrow hb htk))
 go_ret3
 exact ⟨V,l,cnt,er,rfl,HROW.out,HB.out,HTK.out⟩
theorem notNil_unb (W:World):(binOp .eql 81 (.func (.func 48) #[] #[]) .nilFunc).run Try.prog W=.ok (.bool false) W:=by kernel_rfl
def WhL (w:World) (R:Except Int (List Dc)) (e:Ending) (w':World):Prop:=
 ∃ V l er,e=.returned (.tuple #[V,.int .i64 er])∧RowG eDc w' w.heap.size V l∧Below w.heap.size w w'∧EndP l er R
set_option maxHeartbeats 4000000 in
theorem wholeL_calls (A:Option Addr) (n c:Nat) (xs:List Int) (w:World) (h:Bs w w.heap.size A n c xs) :
  Calls Try.prog 47 #[.slice A n c,.func (.func 48) #[] #[]] w (WhL w (endR (listR 16 dcR xs))):=by
 have HS:=Ak h
 have hnil:=notNil_unb
 have HXN:=Ak h.reads.1
 clear h
 go_enter Try.func47,Try.ntmps47
 go_upto_region 5 with (go_at_call 48;go_must (refine (unb1_calls A n c xs _ HS.out).mono ?_;rintro e w2 ⟨V,l,cnt,er,rfl,hrow,hb,htk⟩;have HROW:=Ak hrow;have HB:=Ak hb;have HTK:=Ak htk;clear hrow hb htk))
 cases hR:listR 16 dcR xs with
 | error k =>
  have htk:=HTK.out
  rw [hR] at htk
  obtain ⟨rfl,rfl,rfl,rfl,hne⟩:=htk
  have hne':(er != 0)=true:=by simp [hne]
  have HNE:=Ak hne
  have HRE:=Ak hR
  clear hR hne HTK
  go_wp2
  go_ret2
  exact ⟨_,[],er,rfl,RowG.nil _ _ _,HB.out,by rw [HRE.out];exact ⟨rfl,HNE.out⟩⟩
 | ok y =>
  obtain ⟨l',r⟩:=y
  have htk:=HTK.out
  rw [hR] at htk
  obtain ⟨rfl,rfl,u,rfl,hu1,hu2,rfl⟩:=htk
  rw [HXN.out] at hu2
  by_cases hu:u=n
  ·have hu':((u:Int) != (n:Int))=false:=by simp [hu]
   have HRE:=Ak (endR_ok hR (by rw [HXN.out];exact hu))
   clear hR hu HTK
   go_wp2
   go_ret2
   exact ⟨V,l,0,rfl,HROW.out,HB.out,by rw [HRE.out];exact ⟨rfl,rfl⟩⟩
  ·have hu':((u:Int) != (n:Int))=true:=by simp;omega
   have HRE:=Ak (endR_form hR (by rw [HXN.out];omega))
   clear hR hu HTK
   go_wp2
   go_ret2
   exact ⟨_,[],4,rfl,RowG.nil _ _ _,HB.out,by rw [HRE.out];exact ⟨rfl,by decide⟩⟩
end Go.Proofs.Ytcgkeolgflphiaa

namespace Go.Proofs.Ytcgkeolgflphiaa
open Go.RowKit Go.Proofs.YtcgkeolgflphiaaW.PrintWords Go.RegionInvYtcgkeolgflphiaa

def EndU (l:List Dc) (er:Int):Except Int (List Dc)→Prop
 | .ok y=>l=y∧er=0
 | .error k=>er=k∧k≠0∧l=[]
def UnP (w:World) (R:Except Int (List Dc)) (e:Ending) (w':World):Prop:=
 ∃ V l er,e=.returned (.tuple #[V,.int .i64 er])∧RowG eDc w' w.heap.size V l∧Below w.heap.size w w'∧EndU l er R
theorem unR_end (xs:List Int) (h:¬ 8192<xs.length):unR xs=match endR (listR 16 dcR xs) with
  | .error e=>.error e
  | .ok l=>if mayAll l≠0 then .error (mayAll l) else .ok l:=by
 unfold unR
 rw [if_neg h]
 cases listR 16 dcR xs with
 | error e=>rfl
 | ok y =>
  obtain ⟨d,r⟩:=y
  simp only [endR]
  by_cases h:r=[]
  ·simp only [h,ne_eq,not_true_eq_false,if_false]
  ·simp only [ne_eq,h,not_false_eq_true,if_true]
theorem rowDc_dcs {w:World} {lo:Nat} {V:Value} {xs:List Dc} (h:RowG eDc w lo V xs):∃ (L:Option Addr) (e:Nat) (q:Nat→DPl),V=.slice L xs.length e∧(xs.length≤e∧e≤9223372036854775807)∧DcsS w (fun b=>lo≤b) L q xs:=by
 obtain ⟨cs,q,ho,hk⟩:=h
 obtain ⟨L,e,rfl⟩:=own_slice ho
 refine ⟨L,e,q,rfl,⟨own_cap ho,own_max ho⟩,fun i c hc=>?_⟩
 have hi:i<xs.length:=by
  rcases Nat.lt_or_ge i xs.length with h | h
  ·exact h
  ·rw [List.getElem?_eq_none h] at hc;cases hc
 obtain ⟨g,cap,hv,hb,_⟩:=ho.form (by omega)
 have hv':=hv
 injection hv with hA
 refine ⟨⟨g,0,hA,hb,fun j v hjv=>?_⟩,DcS.mono (hk i c hc).2 fun b hb _=>hb.1⟩
 have:=ho.cells (g:=g) (by rw [hv'];rfl) _ _ ((hk i c hc).1 j v hjv)
 rwa [show (⟨g,0,none⟩:Addr).add (i * eDc.sz+j)=⟨g,0+(i * 21+j),none⟩ from add_flat g 0 _,← Nat.add_assoc] at this
set_option maxRecDepth 100000 in
set_option maxHeartbeats 8000000 in
theorem unbundle_calls (A:Option Addr) (n c:Nat) (xs:List Int) (w:World) (h:Bs w w.heap.size A n c xs) :
  Calls Try.prog 24 #[.slice A n c] w (UnP w (unR xs)):=by
 have HS:=Ak h
 have HXN:=Ak h.reads.1
 clear h
 go_enter Try.func24,Try.ntmps24
 by_cases hbig:8192<n
 ·have hb':(8192:Int)<n:=by omega
  have HRE:=Ak (show unR xs=.error 2 by unfold unR;rw [if_pos (by rw [HXN.out];exact hbig)])
  go_wp2
  go_ret2
  exact ⟨_,[],2,rfl,RowG.nil _ _ _,Below.refl _ _,by rw [HRE.out];exact ⟨rfl,by decide,rfl⟩⟩
 ·have hb':¬ (8192:Int)<n:=by omega
  have HE:=Ak (unR_end xs (by rw [HXN.out];exact hbig))
  clear hbig
  go_upto_region 4 with (go_at_call 47;go_must (refine (wholeL_calls A n c xs _ HS.out).mono ?_;rintro e w2 ⟨V,l,er,rfl,hrow,hb,htk⟩;have HROW:=Ak hrow;have HB:=Ak hb;have HTK:=Ak htk;clear hrow hb htk))
  cases hR:endR (listR 16 dcR xs) with
  | error k =>
   have htk:=HTK.out
   rw [hR] at htk
   obtain ⟨rfl,hne⟩:=htk
   have hne':(er != 0)=true:=by simp [hne]
   have HNE:=Ak hne
   have HRE:=Ak (show unR xs=.error er by rw [HE.out,hR])
   clear hR hne HTK
   go_wp2
   go_ret2
   exact ⟨_,[],er,rfl,RowG.nil _ _ _,HB.out,by rw [HRE.out];exact ⟨rfl,HNE.out,rfl⟩⟩
  | ok l' =>
   have htk:=HTK.out
   rw [hR] at htk
   obtain ⟨rfl,rfl⟩:=htk
   have HRE:=Ak (show unR xs=if mayAll l≠0 then .error (mayAll l) else .ok l by rw [HE.out,hR])
   obtain ⟨L,ec,q,rfl,hle,hds⟩:=rowDc_dcs HROW.out
   have HDS:=Ak hds
   obtain ⟨m,hm⟩:∃ m,m=l.length:=⟨_,rfl⟩
   rw [← hm] at hle ⊢
   have HM:=Ak hm
   have hm9:m≤9223372036854775807:=by omega
   clear hR HTK hds hm hle
   go_wp2
   go_loopw [22] (fun i wr=>∃ k:Nat,i=.int .i64 k∧k≤m∧Aside0 (mayAll (l.drop k)=mayAll l)∧Aside0 (Below w2.heap.size w2 wr)) (fun i _=>m - (intOf i).toNat)
   case atStart=>exact ⟨0,rfl,Nat.zero_le _,⟨rfl⟩,⟨Below.refl _ _⟩⟩
   case round =>
    obtain ⟨k,rfl,hk,HK,HBR⟩:=hrel
    by_cases hlt:k<m
    ·have hlt2:k<l.length:=by rw [← HM.out];exact hlt
     obtain ⟨c,hc⟩:∃ c,l[k]?=some c:=⟨_,List.getElem?_eq_getElem hlt2⟩
     obtain ⟨⟨bk,o,hA,hSb,hcells⟩,hty⟩:=(HDS.out.same (w':=wr) fun k _ hk=>HBR.out.block k hk) k c hc
     have HAA:=Ak hA
     have HRG:=Ak (show wr.rangeAt bk (o+k * 21) (dcC (q k) c) from hcells)
     have HTY:=Ak hty
     have HDR:=Ak (drop_dc hc)
     rw [hA]
     clear hA hcells hc hlt2 hty
     by_cases hmd:mayD c=0
     ·have HMV:=Ak hmd
      clear hmd
      go_upto_region 9 with (first
       | (refine wpList_load_mid rfl 30 _ rfl bk (o+k * 21) rfl [.int .i64 c.kind,.string c.nm,.int .i64 c.vars,.int .i64 c.ty.kind,.int .i64 c.ty.num,.string c.ty.name,.int .i64 c.ty.lv.kind,.int .i64 c.ty.lv.num,.slice (q k).pt.A c.ty.lv.kids.length (q k).pt.c,.slice (q k).pt.B c.ty.ls.length (q k).pt.d,.slice (q k).pt.K c.ty.kids.length (q k).pt.e,.int .i64 c.val.kind,.int .i64 c.val.num,.string c.val.name,.int .i64 c.val.lv.kind,.int .i64 c.val.lv.num,.slice (q k).pv.A c.val.lv.kids.length (q k).pv.c,.slice (q k).pv.B c.val.ls.length (q k).pv.d,.slice (q k).pv.K c.val.kids.length (q k).pv.e,.int .i64 c.params,.slice (q k).C c.cs.length (q k).e] _ HRG.out Try.underlying30 rfl (by kernel_rfl) ?_)
       | (refine wpList_store_row rfl 30 _ _ rfl wr.heap.size #[.int .i64 c.kind,.string c.nm,.int .i64 c.vars,.int .i64 c.ty.kind,.int .i64 c.ty.num,.string c.ty.name,.int .i64 c.ty.lv.kind,.int .i64 c.ty.lv.num,.slice (q k).pt.A c.ty.lv.kids.length (q k).pt.c,.slice (q k).pt.B c.ty.ls.length (q k).pt.d,.slice (q k).pt.K c.ty.kids.length (q k).pt.e,.int .i64 c.val.kind,.int .i64 c.val.num,.string c.val.name,.int .i64 c.val.lv.kind,.int .i64 c.val.lv.num,.slice (q k).pv.A c.val.lv.kids.length (q k).pv.c,.slice (q k).pv.B c.val.ls.length (q k).pv.d,.slice (q k).pv.K c.val.kids.length (q k).pv.e,.int .i64 c.params,.slice (q k).C c.cs.length (q k).e] rfl rfl 30 #[.int .i64 0,.string ⟨#[]⟩,.int .i64 0,.int .i64 0,.int .i64 0,.string ⟨#[]⟩,.int .i64 0,.int .i64 0,.slice none 0 0,.slice none 0 0,.slice none 0 0,.int .i64 0,.int .i64 0,.string ⟨#[]⟩,.int .i64 0,.int .i64 0,.slice none 0 0,.slice none 0 0,.slice none 0 0,.int .i64 0,.slice none 0 0] (blk_new _ _) (by kernel_rfl) rfl (all_one (l:=[.int .i64 c.kind,.string c.nm,.int .i64 c.vars,.int .i64 c.ty.kind,.int .i64 c.ty.num,.string c.ty.name,.int .i64 c.ty.lv.kind,.int .i64 c.ty.lv.num,.slice (q k).pt.A c.ty.lv.kids.length (q k).pt.c,.slice (q k).pt.B c.ty.ls.length (q k).pt.d,.slice (q k).pt.K c.ty.kids.length (q k).pt.e,.int .i64 c.val.kind,.int .i64 c.val.num,.string c.val.name,.int .i64 c.val.lv.kind,.int .i64 c.val.lv.num,.slice (q k).pv.A c.val.lv.kids.length (q k).pv.c,.slice (q k).pv.B c.val.ls.length (q k).pv.d,.slice (q k).pv.K c.val.kids.length (q k).pv.e,.int .i64 c.params,.slice (q k).C c.cs.length (q k).e]) rfl) ?_))
      obtain ⟨W5,hW5⟩:∃ W5,W5=(wr.alloc (.cells zdcA 30 (0,0))).setRow wr.heap.size (dcA (q k) c):=⟨_,rfl⟩
      have hs5:=dc_boxed wr (q k) c
      rw [← hW5] at hs5
      have HX5:=Ak hs5.1
      have HB5:=Ak hs5.2
      have HBW5:=Ak (show Below w2.heap.size w2 W5 from Below.trans HBR.out (hs5.2.mono HBR.out.size))
      unfold zdcA dcA at hW5
      rw [← hW5]
      clear hW5 hs5
      go_wp2_with (first
       | (refine wpList_load_row rfl 30 _ rfl wr.heap.size rfl 30 _ (0,0) _ HX5.out Try.underlying30 rfl (by kernel_rfl) ?_)
       | (go_at_call 13;go_must (refine (mayd_calls c (q k) W5 (DcS.all (HTY.out.same fun k _ hk=>HB5.out.block k hk))).mono ?_;rintro e w6 ⟨rfl,hb⟩;rw [HMV.out];have HB6:=Ak (show Below w2.heap.size w2 w6 from Below.trans HBW5.out (hb.mono HBW5.out.size));clear hb)))
      go_roundw
      case rel=>exact ⟨k+1,by go_num,by omega,⟨by rw [← HK.out,HDR.out,all_go HMV.out]⟩,HB6⟩
      case measure=>(simp [intOf];try omega)
     ·have HEE:=Ak (show mayAll l=mayD c by rw [← HK.out,HDR.out,all_no hmd])
      obtain ⟨e1,he1⟩:∃ e1,mayD c=e1:=⟨_,rfl⟩
      rw [he1] at hmd HEE
      have HMV:=Ak he1
      have HNE:=Ak hmd
      have hm':(e1 != 0)=true:=by simpa using hmd
      clear hmd he1
      go_upto_region 9 with (first
       | (refine wpList_load_mid rfl 30 _ rfl bk (o+k * 21) rfl [.int .i64 c.kind,.string c.nm,.int .i64 c.vars,.int .i64 c.ty.kind,.int .i64 c.ty.num,.string c.ty.name,.int .i64 c.ty.lv.kind,.int .i64 c.ty.lv.num,.slice (q k).pt.A c.ty.lv.kids.length (q k).pt.c,.slice (q k).pt.B c.ty.ls.length (q k).pt.d,.slice (q k).pt.K c.ty.kids.length (q k).pt.e,.int .i64 c.val.kind,.int .i64 c.val.num,.string c.val.name,.int .i64 c.val.lv.kind,.int .i64 c.val.lv.num,.slice (q k).pv.A c.val.lv.kids.length (q k).pv.c,.slice (q k).pv.B c.val.ls.length (q k).pv.d,.slice (q k).pv.K c.val.kids.length (q k).pv.e,.int .i64 c.params,.slice (q k).C c.cs.length (q k).e] _ HRG.out Try.underlying30 rfl (by kernel_rfl) ?_)
       | (refine wpList_store_row rfl 30 _ _ rfl wr.heap.size #[.int .i64 c.kind,.string c.nm,.int .i64 c.vars,.int .i64 c.ty.kind,.int .i64 c.ty.num,.string c.ty.name,.int .i64 c.ty.lv.kind,.int .i64 c.ty.lv.num,.slice (q k).pt.A c.ty.lv.kids.length (q k).pt.c,.slice (q k).pt.B c.ty.ls.length (q k).pt.d,.slice (q k).pt.K c.ty.kids.length (q k).pt.e,.int .i64 c.val.kind,.int .i64 c.val.num,.string c.val.name,.int .i64 c.val.lv.kind,.int .i64 c.val.lv.num,.slice (q k).pv.A c.val.lv.kids.length (q k).pv.c,.slice (q k).pv.B c.val.ls.length (q k).pv.d,.slice (q k).pv.K c.val.kids.length (q k).pv.e,.int .i64 c.params,.slice (q k).C c.cs.length (q k).e] rfl rfl 30 #[.int .i64 0,.string ⟨#[]⟩,.int .i64 0,.int .i64 0,.int .i64 0,.string ⟨#[]⟩,.int .i64 0,.int .i64 0,.slice none 0 0,.slice none 0 0,.slice none 0 0,.int .i64 0,.int .i64 0,.string ⟨#[]⟩,.int .i64 0,.int .i64 0,.slice none 0 0,.slice none 0 0,.slice none 0 0,.int .i64 0,.slice none 0 0] (blk_new _ _) (by kernel_rfl) rfl (all_one (l:=[.int .i64 c.kind,.string c.nm,.int .i64 c.vars,.int .i64 c.ty.kind,.int .i64 c.ty.num,.string c.ty.name,.int .i64 c.ty.lv.kind,.int .i64 c.ty.lv.num,.slice (q k).pt.A c.ty.lv.kids.length (q k).pt.c,.slice (q k).pt.B c.ty.ls.length (q k).pt.d,.slice (q k).pt.K c.ty.kids.length (q k).pt.e,.int .i64 c.val.kind,.int .i64 c.val.num,.string c.val.name,.int .i64 c.val.lv.kind,.int .i64 c.val.lv.num,.slice (q k).pv.A c.val.lv.kids.length (q k).pv.c,.slice (q k).pv.B c.val.ls.length (q k).pv.d,.slice (q k).pv.K c.val.kids.length (q k).pv.e,.int .i64 c.params,.slice (q k).C c.cs.length (q k).e]) rfl) ?_))
      obtain ⟨W5,hW5⟩:∃ W5,W5=(wr.alloc (.cells zdcA 30 (0,0))).setRow wr.heap.size (dcA (q k) c):=⟨_,rfl⟩
      have hs5:=dc_boxed wr (q k) c
      rw [← hW5] at hs5
      have HX5:=Ak hs5.1
      have HB5:=Ak hs5.2
      have HBW5:=Ak (show Below w2.heap.size w2 W5 from Below.trans HBR.out (hs5.2.mono HBR.out.size))
      unfold zdcA dcA at hW5
      rw [← hW5]
      clear hW5 hs5
      go_wp2_with (first
       | (refine wpList_load_row rfl 30 _ rfl wr.heap.size rfl 30 _ (0,0) _ HX5.out Try.underlying30 rfl (by kernel_rfl) ?_)
       | (go_at_call 13;go_must (refine (mayd_calls c (q k) W5 (DcS.all (HTY.out.same fun k _ hk=>HB5.out.block k hk))).mono ?_;rintro e w6 ⟨rfl,hb⟩;rw [HMV.out];have HB6:=Ak (show Below w2.heap.size w2 w6 from Below.trans HBW5.out (hb.mono HBW5.out.size));clear hb)))
      go_ret2
      exact ⟨_,[],e1,rfl,RowG.nil _ _ _,below_then HB.out HB.out.size HB6.out,by rw [HRE.out,if_pos (by rw [HEE.out];exact HNE.out),HEE.out];exact ⟨rfl,HNE.out,rfl⟩⟩
    ·obtain rfl:k=m:=by omega
     have hlt':decide ((k:Int)<k)=false:=by simp
     have HAL:=Ak (show mayAll l=0 by rw [← HK.out,List.drop_of_length_le (by rw [← HM.out];exact Nat.le_refl _)];rfl)
     go_wp2
     go_ret2
     exact ⟨_,l,0,rfl,by rw [HM.out];exact RowG.later HROW.out HBR.out,below_then HB.out HB.out.size HBR.out,by rw [HRE.out,if_neg (fun h=>h HAL.out)];exact ⟨rfl,rfl⟩⟩
end Go.Proofs.Ytcgkeolgflphiaa

namespace Go.Proofs.Ytcgkeolgflphiaa
open Go.RowKit Go.Proofs.YtcgkeolgflphiaaW.PrintWords Go.RegionInvYtcgkeolgflphiaa

abbrev rrB (A:Option Addr) (n c:Nat) (e:Int):Obj:=.cells #[.slice A n c,.int .i64 e] 75 (0,0)
def RrOk (w:World) (g:Nat) (xs:List Int):Prop:=∃ A n c,w.heap[g]?=some (rrB A n c 0)∧Bs w g A n c xs
def RrBad (w:World) (g:Nat) (e:Int):Prop:=∃ A n c,w.heap[g]?=some (rrB A n c e)
def RR (W:World) (g:Nat):Except Int (List Int)→Prop
 | .ok xs=>RrOk W g xs
 | .error e=>e≠0∧RrBad W g e
theorem RrOk.lt {w:World} {g:Nat} {xs:List Int} (h:RrOk w g xs):g<w.heap.size:=by obtain ⟨_,_,_,h,_⟩:=h;exact blk_lt h
theorem RrBad.lt {w:World} {g:Nat} {e:Int} (h:RrBad w g e):g<w.heap.size:=by obtain ⟨_,_,_,h⟩:=h;exact blk_lt h
theorem RrOk.chg {w w':World} {g:Nat} {xs:List Int} {S:Nat→Prop} (h:RrOk w g xs) (hS:∀ k,S k→g<k) (hc:Chg S w w'):RrOk w' g xs:=by
 obtain ⟨A,n,c,hb,hs⟩:=h
 exact ⟨A,n,c,(hc.block g (blk_lt hb) (fun hk=>absurd (hS g hk) (Nat.lt_irrefl g))).trans hb,hs.chg (Nat.le_of_lt (blk_lt hb)) (fun k hk=>Nat.le_of_lt (hS k hk)) hc⟩
theorem RrBad.chg {w w':World} {g:Nat} {e:Int} {S:Nat→Prop} (h:RrBad w g e) (hS:∀ k,S k→g<k) (hc:Chg S w w'):RrBad w' g e:=by
 obtain ⟨A,n,c,hb⟩:=h
 exact ⟨A,n,c,(hc.block g (blk_lt hb) (fun hk=>absurd (hS g hk) (Nat.lt_irrefl g))).trans hb⟩
theorem RR.chg {W W':World} {g:Nat} {s:Except Int (List Int)} {S:Nat→Prop} (h:RR W g s) (hS:∀ k,S k→g<k) (hc:Chg S W W'):RR W' g s:=by
 cases s with
 | error e=>exact ⟨h.1,RrBad.chg h.2 hS hc⟩
 | ok x=>exact RrOk.chg h hS hc
theorem RR.below {W W':World} {g:Nat} {s:Except Int (List Int)} (h:RR W g s) (hb:Below W.heap.size W W'):RR W' g s:=h.chg (S:=fun _=>False) (fun _ h=>h.elim) (Chg.of_below hb)
theorem RR.lt {W:World} {g:Nat} {s:Except Int (List Int)} (h:RR W g s):g<W.heap.size:=by
 cases s with
 | error e=>exact h.2.lt
 | ok x=>exact RrOk.lt h
theorem row2t {w:World} {g:Nat} {a b:Value} {t:TypeId} (h:w.heap[g]?=some (.cells #[a,b] t (0,0))):w.cell? ⟨g,0,none⟩=some a∧w.cell? ⟨g,1,none⟩=some b∧w.frozen? ⟨g,0,none⟩=false∧w.frozen? ⟨g,1,none⟩=false:=by
 refine ⟨?_,?_,blk_frozen h 0,blk_frozen h 1⟩ <;> (rw [cell_of_row _ _ _ _ _ _ h];rfl)
theorem rr2_0 {w:World} {g:Nat} {a b x:Value} {t:TypeId} (h:w.heap[g]?=some (.cells #[a,b] t (0,0))):(w.setCell ⟨g,0,none⟩ x).heap[g]?=some (.cells #[x,b] t (0,0)):=blk_put h 0 x rfl
theorem rr2_1 {w:World} {g:Nat} {a b x:Value} {t:TypeId} (h:w.heap[g]?=some (.cells #[a,b] t (0,0))):(w.setCell ⟨g,1,none⟩ x).heap[g]?=some (.cells #[a,x] t (0,0)):=blk_put h 1 x rfl
def failS (k:Int):Except Int (List Int)→Except Int (List Int)
 | .ok _=>.error k
 | .error e=>.error e
def byteS:Except Int (List Int)→Int × Except Int (List Int)
 | .error e=>(0,.error e)
 | .ok []=>(0,.error 3)
 | .ok (x :: r)=>(x,.ok r)
def endS:Except Int (List Int)→Except Int (List Int)
 | .error e=>.error e
 | .ok []=>.ok []
 | .ok (_ :: _)=>.error 4
def rNumR (most over:Int) (xs:List Int):Except Int (Int × List Int):=
 if (takeN xs).2.2≠0 then .error (takeN xs).2.2 else if most<(takeN xs).1 then .error over else .ok ((takeN xs).1,xs.drop (takeN xs).2.1.toNat)
theorem rr_err {w:World} {g n c:Nat} {A:Option Addr} {er k:Int} (hg:w.heap[g]?=some (rrB A n c er)) (hk:k≠0):RR (w.setCell ⟨g,1,none⟩ (.int .i64 k)) g (.error k):=⟨hk,A,n,c,rr2_1 hg⟩
theorem rr_ok {w:World} {g n c n' c':Nat} {A A':Option Addr} {r:List Int} (hg:w.heap[g]?=some (rrB A n c 0)) (hs:Bs w g A' n' c' r):RR (w.setCell ⟨g,0,none⟩ (.slice A' n' c')) g (.ok r):=
 ⟨A',n',c',rr2_0 hg,hs.chg (Nat.le_of_lt (blk_lt hg)) (fun k e=>Nat.le_of_eq e.symm) (chg_set _ _ _ _)⟩
theorem rfail_any (g:Nat) (s:Except Int (List Int)) (k:Int) (w:World) (h:RR w g s) (hk:k≠0) :
  Calls Try.prog 70 #[.pointer (some ⟨g,0,none⟩),.int .i64 k] w fun e w'=>e=.returned (.tuple #[])∧Chg (fun k=>k=g) w w'∧RR w' g (failS k s):=by
 cases s with
 | error er =>
  obtain ⟨hne,A,n,c,hg⟩:=h
  obtain ⟨c0,c1,z0,z1⟩:=row2t hg
  have he:(er == 0)=false:=by simp [hne]
  have HG:=Ak hg
  have HNE:=Ak hne
  clear hg hne hk
  go_enter Try.func70,Try.ntmps70
  go_wp2
  go_end0
  exact ⟨rfl,Chg.refl _ _,HNE.out,A,n,c,HG.out⟩
 | ok xs =>
  obtain ⟨A,n,c,hg,hs⟩:=h
  obtain ⟨c0,c1,z0,z1⟩:=row2t hg
  have HG:=Ak hg
  have HK:=Ak hk
  clear hg hs hk
  go_enter Try.func70,Try.ntmps70
  go_wp2
  go_end0
  exact ⟨rfl,chg_set _ _ _ _,rr_err HG.out HK.out⟩
theorem rend_any (g:Nat) (s:Except Int (List Int)) (w:World) (h:RR w g s) :
  Calls Try.prog 45 #[.pointer (some ⟨g,0,none⟩)] w fun e w'=>e=.returned (.tuple #[])∧Chg (fun k=>k=g) w w'∧RR w' g (endS s):=by
 cases s with
 | error er =>
  obtain ⟨hne,A,n,c,hg⟩:=h
  obtain ⟨c0,c1,z0,z1⟩:=row2t hg
  have he:(er == 0)=false:=by simp [hne]
  have HG:=Ak hg
  have HNE:=Ak hne
  clear hg hne
  go_enter Try.func45,Try.ntmps45
  go_wp2
  go_end0
  exact ⟨rfl,Chg.refl _ _,HNE.out,A,n,c,HG.out⟩
 | ok xs =>
  obtain ⟨A,n,c,hg,hs⟩:=h
  obtain ⟨c0,c1,z0,z1⟩:=row2t hg
  have HG:=Ak hg
  have HS:=Ak hs
  have hn:=hs.reads.1
  have hlen:=hs.len
  clear hg hs
  cases xs with
  | nil =>
   obtain rfl:n=0:=hn.symm
   clear hn
   go_enter Try.func45,Try.ntmps45
   go_wp2
   go_end0
   exact ⟨rfl,Chg.refl _ _,A,0,c,HG.out,HS.out⟩
  | cons x r =>
   have hn0:0<n:=by simp only [List.length_cons] at hn;omega
   clear hn
   go_enter Try.func45,Try.ntmps45
   go_wp2
   go_end0
   exact ⟨rfl,chg_set _ _ _ _,rr_err HG.out (by decide)⟩
def BytePost (w:World) (g:Nat) (s:Except Int (List Int)) (e:Ending) (w':World):Prop:=e=.returned (.int .u8 (byteS s).1)∧Chg (fun k=>k=g) w w'∧RR w' g (byteS s).2
theorem rbyte_any (g:Nat) (s:Except Int (List Int)) (w:World) (h:RR w g s) :
  Calls Try.prog 69 #[.pointer (some ⟨g,0,none⟩)] w (BytePost w g s):=by
 cases s with
 | error er =>
  obtain ⟨hne,A,n,c,hg⟩:=h
  obtain ⟨c0,c1,z0,z1⟩:=row2t hg
  have he:(er != 0)=true:=by simp [hne]
  have HG:=Ak hg
  have HNE:=Ak hne
  clear hg hne
  go_enter Try.func69,Try.ntmps69
  go_wp2
  go_ret
  exact ⟨rfl,Chg.refl _ _,HNE.out,A,n,c,HG.out⟩
 | ok xs =>
  obtain ⟨A,n,c,hg,hs⟩:=h
  obtain ⟨c0,c1,z0,z1⟩:=row2t hg
  have HG:=Ak hg
  have HS:=Ak hs
  have hn:=hs.reads.1
  cases xs with
  | nil =>
   obtain rfl:n=0:=hn.symm
   clear hn hg hs
   go_enter Try.func69,Try.ntmps69
   go_wp2
   go_ret
   exact ⟨rfl,chg_set _ _ _ _,rr_err HG.out (by decide)⟩
  | cons x r =>
   obtain rfl:n=r.length+1:=by simpa using hn.symm
   obtain ⟨ad,rfl,hc⟩:=hs.reads.at_ 0 (Int.le_refl 0) (by omega)
   have hb:=hs.bytes x (by simp)
   have hc':w.cell? ad=some (.int .u8 x):=by
    have h0:ad.add 0=ad:=by simp [Addr.add]
    rw [← h0]
    exact hc
   have hn0:((r.length:Int)+1 == 0)=false:=by
    simp only [beq_eq_false_iff_ne];omega
   obtain ⟨A',hcut,hcs⟩:=cut_old (A:=some ad) (n:=r.length+1) (c:=c) 1 (by omega)
   have HCS:=Ak hcs
   rw [show ((1:Nat):Int)=1 from rfl] at hcut
   have hlen:=hs.len
   clear hg hs hn hcs hc
   go_enter Try.func69,Try.ntmps69
   go_wp2
   go_ret
   exact ⟨rfl,chg_set _ _ _ _,rr_ok HG.out (HCS.out w g (x :: r) HS.out)⟩
def RNumP (w:World) (g:Nat) (R:Except Int (Int × List Int)) (e:Ending) (w':World):Prop:=e=.returned (.int .u64 (okNum R))∧Chg (fun k=>k=g) w w'∧RR w' g (restR R)
set_option maxHeartbeats 2000000 in
theorem rNumber_any (g:Nat) (s:Except Int (List Int)) (most over:Int) (w:World) (h:RR w g s) (h0:0≤most) (h1:most≤1048576) (ho:over≠0) (ho2:-100≤over) (ho3:over≤100) :
  Calls Try.prog 50 #[.pointer (some ⟨g,0,none⟩),.int .u64 most,.int .i64 over] w (RNumP w g (nextR s (rNumR most over))):=by
 cases s with
 | error er =>
  obtain ⟨hne,A,n,c,hg⟩:=h
  obtain ⟨c0,c1,z0,z1⟩:=row2t hg
  have he:(er != 0)=true:=by simp [hne]
  have HG:=Ak hg
  have HNE:=Ak hne
  clear hg hne ho
  go_enter Try.func50,Try.ntmps50
  go_wp2
  go_ret
  exact ⟨rfl,Chg.refl _ _,HNE.out,A,n,c,HG.out⟩
 | ok xs =>
  obtain ⟨A,n,c,hg,hs⟩:=h
  obtain ⟨c0,c1,z0,z1⟩:=row2t hg
  have HG:=Ak hg
  have HS:=Ak hs
  have HO:=Ak ho
  have hn:=hs.reads.1
  have hlen:=hs.len
  show Calls _ _ _ w (RNumP w g (rNumR most over xs))
  rcases takeN_cases hs.bytes with hT | hT | ⟨k,u,hT,hk,hu1,hu2⟩
  ·have HK:=Ak (show rNumR most over xs=.error 3 by unfold rNumR;rw [hT];rfl)
   have HT:=Ak hT
   clear hg hs hn hT ho
   go_enter Try.func50,Try.ntmps50
   go_wp2_with (go_at_call 76;go_must (refine (refTake_calls A n c xs _ HS.out.reads HS.out.bytes hlen).mono ?_;rintro e w' ⟨rfl,hw⟩;obtain rfl:w=w':=hw.symm;rw [HT.out]))
   go_ret
   rw [HK.out]
   exact ⟨rfl,chg_set _ _ _ _,rr_err HG.out (by decide)⟩
  ·have HK:=Ak (show rNumR most over xs=.error 4 by unfold rNumR;rw [hT];rfl)
   have HT:=Ak hT
   clear hg hs hn hT ho
   go_enter Try.func50,Try.ntmps50
   go_wp2_with (go_at_call 76;go_must (refine (refTake_calls A n c xs _ HS.out.reads HS.out.bytes hlen).mono ?_;rintro e w' ⟨rfl,hw⟩;obtain rfl:w=w':=hw.symm;rw [HT.out]))
   go_ret
   rw [HK.out]
   exact ⟨rfl,chg_set _ _ _ _,rr_err HG.out (by decide)⟩
  ·have hu3:u≤n:=by omega
   obtain ⟨A',hcut,hcs⟩:=cut_old (A:=A) (n:=n) (c:=c) u hu3
   have HCS:=Ak (hcs w g xs hs)
   have HT:=Ak hT
   by_cases hbig:most<(k:Int)
   ·have HK:=Ak (show rNumR most over xs=.error over by unfold rNumR;rw [hT];rw [if_neg (by simp),if_pos (by omega)])
    have hb':decide (most<(k:Int))=true:=decide_eq_true hbig
    have ho':(over != 0)=true:=by simp [ho]
    clear hg hs hn hT hcut hcs ho hbig
    go_enter Try.func50,Try.ntmps50
    go_wp2_with (go_at_call 76;go_must (refine (refTake_calls A n c xs _ HS.out.reads HS.out.bytes hlen).mono ?_;rintro e w' ⟨rfl,hw⟩;obtain rfl:w=w':=hw.symm;rw [HT.out]))
    go_ret
    rw [HK.out]
    exact ⟨rfl,chg_set _ _ _ _,rr_err HG.out HO.out⟩
   ·have HK:=Ak (show rNumR most over xs=.ok ((k:Int),xs.drop u) by unfold rNumR;rw [hT];rw [if_neg (by simp),if_neg (by simp;omega)];rfl)
    have hb':decide (most<(k:Int))=false:=decide_eq_false hbig
    clear hg hs hn hT hcs ho hbig
    go_enter Try.func50,Try.ntmps50
    go_wp2_with (go_at_call 76;go_must (refine (refTake_calls A n c xs _ HS.out.reads HS.out.bytes hlen).mono ?_;rintro e w' ⟨rfl,hw⟩;obtain rfl:w=w':=hw.symm;rw [HT.out]))
    go_ret
    rw [HK.out]
    exact ⟨rfl,chg_set _ _ _ _,rr_ok HG.out HCS.out⟩
theorem num_bound {most over n:Int} {xs r:List Int} (hB:Bytes xs) (h:rNumR most over xs=.ok (n,r)):0≤n∧n≤most:=by
 unfold rNumR at h
 split at h
 ·cases h
 ·split at h
  ·cases h
  ·simp only [Except.ok.injEq,Prod.mk.injEq] at h
   obtain ⟨rfl,-⟩:=h
   refine ⟨?_,by omega⟩
   rcases takeN_cases hB with hT | hT | ⟨k,u,hT,hk,hu1,hu2⟩ <;> rw [hT]
   ·exact Int.le_refl _
   ·exact Int.le_refl _
   ·exact Int.natCast_nonneg _
theorem okNum_bound (s:Except Int (List Int)) {most over:Int} (hm:0≤most) (hB:∀ xs,s=.ok xs→Bytes xs):0≤okNum (nextR s (rNumR most over))∧okNum (nextR s (rNumR most over))≤most:=by
 cases s with
 | error e=>exact ⟨Int.le_refl _,hm⟩
 | ok xs =>
  show 0≤okNum (rNumR most over xs)∧okNum (rNumR most over xs)≤most
  cases h:rNumR most over xs with
  | error e=>exact ⟨Int.le_refl _,hm⟩
  | ok x=>exact num_bound (hB xs rfl) h
theorem RR.bytes {W:World} {g:Nat} {s:Except Int (List Int)} (h:RR W g s):∀ xs,s=.ok xs→Bytes xs:=by
 rintro xs rfl
 obtain ⟨_,_,_,_,hs⟩:=h
 exact hs.bytes
def RnumP (w:World) (g:Nat) (R:Except Int (Int × List Int)) (e:Ending) (w':World):Prop:=e=.returned (.int .i64 (okNum R))∧Chg (fun k=>k=g) w w'∧RR w' g (restR R)
theorem rnumber_any (g:Nat) (s:Except Int (List Int)) (w:World) (h:RR w g s) :
  Calls Try.prog 72 #[.pointer (some ⟨g,0,none⟩)] w (RnumP w g (nextR s numR)):=by
 have H:=Ak h
 have hb:=okNum_bound (over:=1) s (most:=1048576) (by decide) h.bytes
 have hz:=RR.lt h
 obtain ⟨kk,hkk⟩:∃ kk,kk=okNum (nextR s (rNumR 1048576 1)):=⟨_,rfl⟩
 have HKK:=Ak hkk
 rw [← hkk] at hb
 clear h hkk
 go_enter Try.func72,Try.ntmps72
 go_wp2_with (go_at_call 50;go_must (refine (rNumber_any g s 1048576 1 _ H.out (by decide) (by decide) (by decide) (by decide) (by decide)).mono ?_;rintro e w' ⟨rfl,hc,hs⟩;rw [← HKK.out];have HC:=Ak hc;have HS:=Ak hs;clear hc hs))
 go_ret
 exact ⟨by rw [HKK.out];rfl,HC.out,HS.out⟩
end Go.Proofs.Ytcgkeolgflphiaa

namespace Go.Proofs.Ytcgkeolgflphiaa
open Go.RowKit Go.Proofs.YtcgkeolgflphiaaW.PrintWords Go.RegionInvYtcgkeolgflphiaa

def bytesR (most:Int) (xs:List Int):Except Int (List Int × List Int):=
 if (takeB xs most).2.2≠0 then .error (takeB xs most).2.2 else .ok ((takeB xs most).1,xs.drop (takeB xs most).2.1.toNat)
def rowOf:Except Int (List Int × List Int)→List Int | .ok (y,_)=>y | .error _=>[]
def RBytesP (w:World) (g:Nat) (R:Except Int (List Int × List Int)) (e:Ending) (w':World):Prop:=∃ v,e=.returned v∧OwnB w' w.heap.size v (rowOf R)∧Chg (fun k=>k=g) w w'∧RR w' g (restR R)
set_option maxHeartbeats 2000000 in
theorem rBytes_calls (g:Nat) (xs:List Int) (w:World) (h:RR w g (.ok xs)) :
  Calls Try.prog 92 #[.pointer (some ⟨g,0,none⟩),.int .i64 32] w (RBytesP w g (bytesR 32 xs)):=by
 obtain ⟨A,n,c,hg,hs⟩:=h
 obtain ⟨c0,c1,z0,z1⟩:=row2t hg
 have HG:=Ak hg
 have HS:=Ak hs
 have hlen:=hs.len
 have hcap:=hs.cap
 have hn:=hs.reads.1
 have hU:=takeB_used (xs:=xs) (most:=32) hs.bytes
 obtain ⟨ys,hys⟩:∃ ys,ys=(takeB xs 32).1:=⟨_,rfl⟩
 obtain ⟨q,hq⟩:∃ q,q=(takeB xs 32).2.1:=⟨_,rfl⟩
 obtain ⟨er,her⟩:∃ er,er=(takeB xs 32).2.2:=⟨_,rfl⟩
 have hR:bytesR 32 xs=if er≠0 then .error er else .ok (ys,xs.drop q.toNat):=by unfold bytesR;rw [← hys,← hq,← her]
 rw [← hys,← hq,← her] at hU
 have HGL:=Ak (blk_lt hg)
 have HYS:=Ak hys
 have HQ:=Ak hq
 have HER:=Ak her
 by_cases he:er=0
 ·subst he
  have hq2:=hU.2.1
  obtain ⟨u,rfl⟩:∃ u:Nat,q=(u:Int):=⟨q.toNat,by omega⟩
  have hu3:u≤n:=by omega
  obtain ⟨A',hcut,hcs⟩:=cut_old (A:=A) (n:=n) (c:=c) u hu3
  have HCS:=Ak (hcs w g xs hs)
  rw [if_neg (by simp),Int.toNat_natCast] at hR
  have HR:=Ak hR
  clear hg hs hn hU hys hq her hR hcs hq2 c0 c1 z0 z1
  go_enter Try.func92,Try.ntmps92
  obtain ⟨c0,c1,z0,z1⟩:=row2t HG.out
  go_wp2_with (go_at_call 110;go_must (refine (refTakeBytes_calls A n c xs 32 _ HS.out.reads hcap HS.out.bytes hlen (by decide) (by decide)).mono ?_;rintro e w1 ⟨v,rfl,ho,hb⟩;rw [← HYS.out] at ho;rw [← HQ.out,← HER.out];have HO1:=Ak (own_set (j:=0) (x:=.slice A' (n - u) (c - u)) ho HGL.out);have HG1:=Ak (blk_below HG.out hb);have HB1:=Ak hb;obtain ⟨d0,d1,y0,y1⟩:=row2t HG1.out;clear ho hb))
  go_ret
  rw [HR.out]
  have hch:Chg (fun k=>k=g) w (w1.setCell ⟨g,0,none⟩ (.slice A' (n - u) (c - u))):=chg_trans (Chg.of_below HB1.out) (chg_set _ _ _ _)
  exact ⟨_,rfl,HO1.out,hch,A',n - u,c - u,rr2_0 HG1.out,HCS.out.chg (Nat.le_of_lt HGL.out) (fun k e=>Nat.le_of_eq e.symm) hch⟩
 ·rw [if_pos he] at hR
  have hq1:-9223372036854775808≤q∧q≤9223372036854775807:=by omega
  have he':(er != 0)=true:=by simp [he]
  have HR:=Ak hR
  have HE:=Ak he
  clear hg hs hn hU hys hq her hR c0 c1 z0 z1 he
  go_enter Try.func92,Try.ntmps92
  obtain ⟨c0,c1,z0,z1⟩:=row2t HG.out
  go_wp2_with (go_at_call 110;go_must (refine (refTakeBytes_calls A n c xs 32 _ HS.out.reads hcap HS.out.bytes hlen (by decide) (by decide)).mono ?_;rintro e w1 ⟨v,rfl,ho,hb⟩;rw [← HQ.out,← HER.out];have HG1:=Ak (blk_below HG.out hb);have HB1:=Ak hb;obtain ⟨d0,d1,y0,y1⟩:=row2t HG1.out;clear ho hb))
  go_ret
  rw [HR.out]
  exact ⟨_,rfl,ownB_nil _ _,chg_trans (Chg.of_below HB1.out) (chg_set _ _ _ _),rr_err HG1.out HE.out⟩
def RNameP (w:World) (g:Nat) (R:Except Int (ByteArray × List Int)) (e:Ending) (w':World):Prop:=
 ∃ s,e=.returned (.string s)∧s.size≤140737488355328∧Chg (fun k=>k=g) w w'∧RR w' g (restR R)∧valIs s R
theorem nameR_bytes (xs:List Int):nameR xs=match bytesR 32 xs with
  | .error e=>.error (if e=2 then 8 else e)
  | .ok (y,r)=>if nameB (nameOf y)=true then .ok (nameOf y,r) else .error 8:=by
 unfold nameR bytesR
 by_cases h:(takeB xs 32).2.2=0
 ·have h0:¬ ((takeB xs 32).2.2≠0):=by simp [h]
  rw [if_neg h0,if_neg h0]
 ·rw [if_pos h,if_pos h]
theorem bytesR_err {xs:List Int} {e:Int} (h:bytesR 32 xs=.error e):e≠0:=by
 unfold bytesR at h
 split at h
 ·cases h;assumption
 ·cases h
theorem rr_at {W:World} {g:Nat} {e:Int} (h:RR W g (.error e)):∃ A n c,W.heap[g]?=some (rrB A n c e):=h.2
set_option maxRecDepth 100000 in
set_option maxHeartbeats 4000000 in
theorem refName_ok (g:Nat) (xs:List Int) (w:World) (h:RR w g (.ok xs)) :
  Calls Try.prog 71 #[.pointer (some ⟨g,0,none⟩)] w (RNameP w g (nameR xs)):=by
 have H:=Ak h
 have HGL:=Ak h.lt
 have hlen:xs.length≤140737488355000:=by obtain ⟨_,_,_,_,hs⟩:=h;have:=hs.reads.1;have:=hs.len;omega
 rw [nameR_bytes]
 cases hR:bytesR 32 xs with
 | error er =>
  have HNE:=Ak (bytesR_err hR)
  have HR:=Ak hR
  have HN0:=Ak nameB_nil
  by_cases h2:er=2
  ·subst h2
   clear hR h hlen
   go_enter Try.func71,Try.ntmps71
   go_upto_region 2 with (go_at_call 92;go_must (refine (rBytes_calls g xs _ H.out).mono ?_;rintro e w1 ⟨v,rfl,ho,hc,hst⟩;rw [HR.out] at ho hst;have HO:=Ak (show OwnB w1 w.heap.size v [] from ho);have HC:=Ak hc;have HST:=Ak hst;clear ho hc hst))
   obtain ⟨A9,c9,rfl,-⟩:=own_reads HO.out
   obtain ⟨A1,n1,c1',hg1⟩:=rr_at HST.out
   obtain ⟨c0,c1,z0,z1⟩:=row2t hg1
   have HG1:=Ak hg1
   have h1:=own_conv (own_set (j:=1) (x:=.int .i64 8) HO.out HGL.out)
   simp only [List.length_nil] at h1
   clear hg1
   go_wp2
   go_ret
   exact ⟨_,rfl,by rw [nameOf_size];exact Nat.zero_le _,chg_trans HC.out (chg_set _ _ _ _),rr_err HG1.out (by decide),trivial⟩
  ·have h2':(er == 2)=false:=by simp [h2]
   have he0:(er == 0)=false:=by simp [HNE.out]
   show Calls _ _ _ w (RNameP w g (.error (if er=2 then 8 else er)))
   rw [if_neg h2]
   clear hR h hlen h2
   go_enter Try.func71,Try.ntmps71
   go_upto_region 2 with (go_at_call 92;go_must (refine (rBytes_calls g xs _ H.out).mono ?_;rintro e w1 ⟨v,rfl,ho,hc,hst⟩;rw [HR.out] at ho hst;have HO:=Ak (show OwnB w1 w.heap.size v [] from ho);have HC:=Ak hc;have HST:=Ak hst;clear ho hc hst))
   obtain ⟨A9,c9,rfl,-⟩:=own_reads HO.out
   obtain ⟨A1,n1,c1',hg1⟩:=rr_at HST.out
   obtain ⟨c0,c1,z0,z1⟩:=row2t hg1
   have HG1:=Ak hg1
   have h1:=own_conv HO.out
   simp only [List.length_nil] at h1
   clear hg1
   go_wp2
   go_ret
   exact ⟨_,rfl,by rw [nameOf_size];exact Nat.zero_le _,HC.out,HST.out,trivial⟩
 | ok x =>
  obtain ⟨ys,r⟩:=x
  have HR:=Ak hR
  have hyl:ys.length≤xs.length:=by
   have h1:=takeB_short_ xs 32
   unfold bytesR at hR
   split at hR
   ·cases hR
   ·simp only [Except.ok.injEq,Prod.mk.injEq] at hR;rw [← hR.1];exact h1
  have HSZ:=Ak (show (nameOf ys).size≤140737488355328 by rw [nameOf_size];omega)
  cases hnb:nameB (nameOf ys) with
  | true =>
   have HNB:=Ak hnb
   simp only [hnb]
   clear hR h hlen hnb hyl
   go_enter Try.func71,Try.ntmps71
   go_upto_region 2 with (go_at_call 92;go_must (refine (rBytes_calls g xs _ H.out).mono ?_;rintro e w1 ⟨v,rfl,ho,hc,hst⟩;rw [HR.out] at ho hst;have HO:=Ak (show OwnB w1 w.heap.size v ys from ho);have HC:=Ak hc;have HST:=Ak (show RR w1 g (.ok r) from hst);clear ho hc hst))
   obtain ⟨A9,c9,rfl,-⟩:=own_reads HO.out
   obtain ⟨A1,n1,c1',hg1,hs1⟩:=HST.out
   obtain ⟨c0,c1,z0,z1⟩:=row2t hg1
   have HG1:=Ak hg1
   have h1:=own_conv HO.out
   clear hg1 hs1
   go_wp2_with (go_at_call 36;go_must (refine (refname_calls (nameOf ys) _ HSZ.out).mono ?_;rintro e w2 ⟨rfl,hb⟩;rw [HNB.out];have HO2:=Ak (pw_own_below HO.out hb);have HST2:=Ak (RR.below HST.out hb);have HB2:=Ak hb;have h2:=own_conv HO2.out;clear hb))
   go_ret
   exact ⟨_,rfl,HSZ.out,chg_trans HC.out (Chg.of_below HB2.out),HST2.out,rfl⟩
  | false =>
   have HNB:=Ak hnb
   simp only [hnb]
   clear hR h hlen hnb hyl
   go_enter Try.func71,Try.ntmps71
   go_upto_region 2 with (go_at_call 92;go_must (refine (rBytes_calls g xs _ H.out).mono ?_;rintro e w1 ⟨v,rfl,ho,hc,hst⟩;rw [HR.out] at ho hst;have HO:=Ak (show OwnB w1 w.heap.size v ys from ho);have HC:=Ak hc;have HST:=Ak (show RR w1 g (.ok r) from hst);clear ho hc hst))
   obtain ⟨A9,c9,rfl,-⟩:=own_reads HO.out
   obtain ⟨A1,n1,c1',hg1,hs1⟩:=HST.out
   obtain ⟨c0,c1,z0,z1⟩:=row2t hg1
   have HG1:=Ak hg1
   have h1:=own_conv HO.out
   clear hg1 hs1
   go_wp2_with (first
    | (go_at_call 36;go_must (refine (refname_calls (nameOf ys) _ HSZ.out).mono ?_;rintro e w2 ⟨rfl,hb⟩;rw [HNB.out];have HO2:=Ak (pw_own_below HO.out hb);have HST2:=Ak (RR.below HST.out hb);have HB2:=Ak hb;clear hb))
    | (go_at_call 70;go_must (refine (rfail_any g _ 8 _ HST2.out (by decide)).mono ?_;rintro e w3 ⟨rfl,hc,hst⟩;have HC3:=Ak hc;have HST3:=Ak hst;have h3:=own_conv (ownsRow_same HO2.out fun k hk=>hc.block k (own_lt HO2.out k hk) (by have:=own_base HO2.out k hk;have:=HGL.out;omega));clear hc hst)))
   go_ret
   exact ⟨_,rfl,HSZ.out,chg_trans HC.out (chg_trans (Chg.of_below HB2.out) HC3.out),HST3.out,trivial⟩
end Go.Proofs.Ytcgkeolgflphiaa

namespace Go.Proofs.Ytcgkeolgflphiaa
open Go.RowKit Go.Proofs.YtcgkeolgflphiaaW.PrintWords Go.RegionInvYtcgkeolgflphiaa

def badB (most:Int) (s:Except Int (List Int)) (k:Int):Bool:=match s with
 | .error _=>false
 | .ok _=>decide (k<1∨most<k)
def kindS (most:Int) (s:Except Int (List Int)):Except Int (List Int):=if badB most (byteS s).2 (byteS s).1=true then failS 4 (byteS s).2 else (byteS s).2
theorem kindS_eq (most:Int) (s:Except Int (List Int)):kindS most s=restR (nextR s (kindR most)):=by
 cases s with
 | error e=>rfl
 | ok xs =>
  cases xs with
  | nil=>rfl
  | cons x r =>
   by_cases hx:x<1∨most<x
   ·have h1:badB most (byteS (.ok (x :: r))).2 (byteS (.ok (x :: r))).1=true:=decide_eq_true hx
    unfold kindS
    rw [if_pos h1]
    show _=restR (kindR most (x :: r))
    simp only [kindR]
    rw [if_pos hx]
    rfl
   ·have h1:badB most (byteS (.ok (x :: r))).2 (byteS (.ok (x :: r))).1=false:=decide_eq_false hx
    unfold kindS
    rw [h1,if_neg (by simp)]
    show _=restR (kindR most (x :: r))
    simp only [kindR]
    rw [if_neg hx]
    rfl
theorem kindS_ok {most:Int} {s:Except Int (List Int)} {r:List Int} (h:kindS most s=.ok r):∃ xs,s=.ok xs∧kindR most xs=.ok ((byteS s).1,r):=by
 rw [kindS_eq] at h
 cases s with
 | error e=>cases h
 | ok xs =>
  refine ⟨xs,rfl,?_⟩
  cases hk:kindR most xs with
  | error e=>rw [show nextR (.ok xs) (kindR most)=kindR most xs from rfl,hk] at h;cases h
  | ok x =>
   obtain ⟨k,r'⟩:=x
   rw [show nextR (.ok xs) (kindR most)=kindR most xs from rfl,hk] at h
   simp only [restR,Except.ok.injEq] at h
   subst h
   obtain ⟨rfl,-,-⟩:=kind_put hk
   rfl
theorem byteS_u8 {s:Except Int (List Int)} (h:∀ xs,s=.ok xs→Bytes xs):0≤(byteS s).1∧(byteS s).1≤255:=by
 cases s with
 | error e=>exact ⟨Int.le_refl _,(by decide:(0:Int)≤255)⟩
 | ok xs =>
  cases xs with
  | nil=>exact ⟨Int.le_refl _,(by decide:(0:Int)≤255)⟩
  | cons x r=>exact h _ rfl x (List.mem_cons_self ..)
def deepS (b:Bool) (s:Except Int (List Int)):Except Int (List Int):=if b=true then failS 2 s else s
theorem deepS_err {b:Bool} {s:Except Int (List Int)} {e:Int} (h:deepS b s=.error e):s=.error e∨(b=true∧e=2∧∃ r,s=.ok r):=by
 unfold deepS at h
 split at h
 ·rename_i hb
  cases s with
  | error e'=>exact .inl h
  | ok r=>cases h;exact .inr ⟨hb,rfl,r,rfl⟩
 ·exact .inl h
theorem deepS_ok {b:Bool} {s:Except Int (List Int)} {r:List Int} (h:deepS b s=.ok r):b=false∧s=.ok r:=by
 unfold deepS at h
 split at h
 ·cases s <;> cases h
 ·rename_i hb;exact ⟨by simpa using hb,h⟩
def nextLv (f:Nat) (s:Except Int (List Int)) (m:Int):Except Int (Lv × List Int × Int):=match s with
 | .error e=>.error e
 | .ok xs=>lvR f xs m
theorem nextLv_err {f:Nat} {s:Except Int (List Int)} {m mm d e:Int} (hd1:1≤d) (hd:(f:Int)+d=33) (hmm:∀ xs,s=.ok xs→mm=m+1) (h:deepS (decide (32<d∨100<mm)) (kindS 4 s)=.error e):nextLv f s m=.error e:=by
 cases s with
 | error e'=>rcases deepS_err h with h | ⟨-,-,r,h⟩ <;> cases h;rfl
 | ok xs =>
  obtain rfl:=hmm xs rfl
  rw [kindS_eq] at h
  show lvR f xs m=.error e
  cases hk:kindR 4 xs with
  | error e' =>
   have hs:restR (nextR (.ok xs) (kindR 4))=.error e':=by show restR (kindR 4 xs)=_;rw [hk];rfl
   rw [hs] at h
   rcases deepS_err h with h | ⟨-,-,r,h⟩ <;> cases h
   cases f with
   | zero=>rw [lvR,hk]
   | succ f=>rw [lvR,hk]
  | ok x =>
   obtain ⟨k,r⟩:=x
   have hs:restR (nextR (.ok xs) (kindR 4))=.ok r:=by show restR (kindR 4 xs)=_;rw [hk];rfl
   rw [hs] at h
   rcases deepS_err h with h | ⟨hb,rfl,-⟩
   ·cases h
   ·have hb:=of_decide_eq_true hb
    cases f with
    | zero=>rw [lvR,hk]
    | succ f=>rw [lvR,hk];simp only [];rw [if_pos (by omega)]
theorem RR.box {W:World} {g:Nat} {s:Except Int (List Int)} (h:RR W g s):∃ A n c e,W.heap[g]?=some (rrB A n c e)∧BoxOf W g A n c e s:=by
 cases s with
 | error e=>obtain ⟨h0,A,n,c,hb⟩:=h;exact ⟨A,n,c,e,hb,rfl,h0⟩
 | ok x=>obtain ⟨A,n,c,hb,hs⟩:=h;exact ⟨A,n,c,0,hb,rfl,hs⟩
structure RvBx (w W:World) (g gn gO:Nat) (k n:Int) (V:Value):Prop where
 out:W.heap[gO]?=some (lvO k n V)
 res:W.heap[w.heap.size]?=some (lvO 0 0 (.slice none 0 0))
 chg:Chg (fun k=>k=g∨k=gn) w W
 far:w.heap.size<gO
 glt:g<w.heap.size
 nlt:gn<w.heap.size
 ne:g<gn
def RvSt (W:World) (g gn:Nat) (l:Lv):Except Int (Lv × List Int × Int)→Prop
 | .ok (t,r,m)=>l=t∧RR W g (.ok r)∧NumAt W gn m
 | .error e=>RR W g (.error e)∧∃ m,NumAt W gn m
def RvPost (w:World) (g gn:Nat) (R:Except Int (Lv × List Int × Int)) (e:Ending) (w':World):Prop:=
 ∃ A c l,e=.returned (lvV A c l)∧LvS w' (fun b=>w.heap.size≤b) A c l∧Chg (fun k=>k=g∨k=gn) w w'∧RvSt w' g gn l R
theorem NumAt.chgS {W W':World} {g:Nat} {m:Int} {S:Nat→Prop} (h:NumAt W g m) (hS:¬ S g) (hc:Chg S W W'):NumAt W' g m:=(hc.block g (blk_lt h) hS).trans h
theorem RR.other {W W':World} {g:Nat} {s:Except Int (List Int)} {S:Nat→Prop} (h:RR W g s) (hg:¬ S g) (hS:∀ k,S k→g≤k) (hc:Chg S W W'):RR W' g s:=h.chg (fun k hk=>by rcases Nat.lt_or_ge g k with h1 | h1;exact h1;exact absurd (show S g by rw [show g=k by have:=hS k hk;omega];exact hk) hg) hc
theorem RvBx.reader {w W W':World} {g gn gO:Nat} {k n:Int} {V:Value} (h:RvBx w W g gn gO k n V) (hc:Chg (fun k=>k=g∨k=gn) W W'):RvBx w W' g gn gO k n V:=by
 have:=h.far
 have:=h.glt
 have:=h.nlt
 exact ⟨(hc.block _ (blk_lt h.out) (by omega)).trans h.out,(hc.block _ (blk_lt h.res) (by omega)).trans h.res,chg_trans h.chg hc,h.far,h.glt,h.nlt,h.ne⟩
theorem RvBx.below {w W W':World} {g gn gO:Nat} {k n:Int} {V:Value} (h:RvBx w W g gn gO k n V) (hb:Below W.heap.size W W'):RvBx w W' g gn gO k n V:=h.reader (Chg.of_below hb)
theorem chg_one {W W':World} {g gn:Nat} (h:Chg (fun k=>k=g) W W'):Chg (fun k=>k=g∨k=gn) W W':=h.mono fun _ e=>.inl e
theorem chg_two {W W':World} {g gn:Nat} (h:Chg (fun k=>k=gn) W W'):Chg (fun k=>k=g∨k=gn) W W':=h.mono fun _ e=>.inr e
theorem RR.chgS {W:World} {g:Nat} {s:Except Int (List Int)} (h:RR W g s) (gn:Nat) (x:Value) (hne:g<gn):RR (W.setCell ⟨gn,0,none⟩ x) g s:=
 h.chg (S:=fun k=>k=gn) (fun k e=>by omega) (chg_set W gn 0 x)
theorem rvBx_new {w w2:World} {g gn:Nat} {k:Int} (hg:g<w.heap.size) (hn:gn<w.heap.size) (hne:g<gn) (hc:Chg (fun k=>k=g) (w.alloc (lvO 0 0 (.slice none 0 0))) w2):RvBx w (w2.alloc (lvO k 0 (.slice none 0 0))) g gn w2.heap.size k 0 (.slice none 0 0):=by
 have hz:=hc.size
 have hs:(w.alloc (lvO 0 0 (.slice none 0 0))).heap.size=w.heap.size+1:=by simp
 refine ⟨blk_new _ _,blk_alloc ((hc.block _ (by omega) (by omega)).trans (blk_new _ _)) _,chg_one (chg_trans (Chg.of_below (below_alloc (Below.refl _ _) _)) (chg_trans hc (Chg.of_below (below_alloc (Below.refl _ _) _)))),by omega,hg,hn,hne⟩
theorem rvPost_fin {w W:World} {g gn gO:Nat} {k n:Int} {A:Option Addr} {c L:Nat} {l:List Lv} {R:Except Int (Lv × List Int × Int)} (hb:RvBx w W g gn gO k n (.slice A L c)) (hL:L=l.length) (hl:LvS W (fun b=>gO<b) A c (.mk k n l))
  (hR:RvSt W g gn (Lv.mk k n l) R) :
  RvPost w g gn R (.returned (.agg #[.int .i64 k,.int .i64 n,.slice A L c])) (((W.setCell ⟨w.heap.size,0,none⟩ (.int .i64 k)).setCell ⟨w.heap.size,1,none⟩ (.int .i64 n)).setCell ⟨w.heap.size,2,none⟩ (.slice A L c)):=by
 subst hL
 have hch:=chg_set3 W w.heap.size (.int .i64 k) (.int .i64 n) (.slice A l.length c)
 have hfar:=hb.far
 have hglt:=hb.glt
 have hnlt:=hb.nlt
 have hz:=hb.chg.size
 refine ⟨A,c,.mk k n l,rfl,(hl.same fun b hb' hz=>hch.block b hz (by omega)).mono fun b hb' _=>by omega,?_,?_⟩
 ·refine ⟨hch.os.trans hb.chg.os,hch.tape.trans hb.chg.tape,hch.output.trans hb.chg.output,Nat.le_trans hb.chg.size hch.size,fun i hi hs=>?_⟩
  rw [hch.block i (Nat.lt_of_lt_of_le hi hb.chg.size) (by omega),hb.chg.block i hi hs]
 ·cases R with
  | error e=>exact ⟨hR.1.chg (S:=fun k=>k=w.heap.size) (fun k e=>by omega) hch,by obtain ⟨m,hm⟩:=hR.2;exact ⟨m,hm.chgS (S:=fun k=>k=w.heap.size) (by omega) hch⟩⟩
  | ok x=>exact ⟨hR.1,hR.2.1.chg (S:=fun k=>k=w.heap.size) (fun k e=>by omega) hch,hR.2.2.chgS (S:=fun k=>k=w.heap.size) (by omega) hch⟩
theorem rvPost_fin0 {w W:World} {g gn gO:Nat} {k e m:Int} {R:Except Int (Lv × List Int × Int)} (hb:RvBx w W g gn gO k 0 (.slice none 0 0)) (hE:R=.error e) (hR:RR W g (.error e)) (hm:NumAt W gn m) :
  RvPost w g gn R (.returned (.agg #[.int .i64 k,.int .i64 0,.slice none 0 0])) (((W.setCell ⟨w.heap.size,0,none⟩ (.int .i64 k)).setCell ⟨w.heap.size,1,none⟩ (.int .i64 0)).setCell ⟨w.heap.size,2,none⟩ (.slice none 0 0)):=by
 subst hE
 exact rvPost_fin (l:=[]) hb rfl (LvS.leaf0 _ _ _ _) ⟨hR,m,hm⟩
theorem RvBx.set {w W:World} {g gn gO:Nat} {k n:Int} {V:Value} (h:RvBx w W g gn gO k n V) (a b c:Value):(((W.setCell ⟨w.heap.size,0,none⟩ a).setCell ⟨w.heap.size,1,none⟩ b).setCell ⟨w.heap.size,2,none⟩ c).heap[w.heap.size]?=some (.cells #[a,b,c] 24 (0,0)):=set3 h.res
theorem RvBx.num {w W:World} {g gn gO:Nat} {k n n':Int} {V:Value} (h:RvBx w W g gn gO k n V):RvBx w (W.setCell ⟨gO,1,none⟩ (.int .i64 n')) g gn gO k n' V:=by
 have hc:=chg_set W gO 1 (.int .i64 n')
 have hfar:=h.far
 have hglt:=h.glt
 refine ⟨blk_put h.out 1 _ rfl,(hc.block _ (blk_lt h.res) (by omega)).trans h.res,⟨hc.os.trans h.chg.os,hc.tape.trans h.chg.tape,hc.output.trans h.chg.output,Nat.le_trans h.chg.size hc.size,fun i hi hs=>?_⟩,hfar,hglt,h.nlt,h.ne⟩
 rw [hc.block i (Nat.lt_of_lt_of_le hi h.chg.size) (by omega),h.chg.block i hi hs]
theorem RvBx.row {w W:World} {g gn gO:Nat} {k n:Int} {V V':Value} (h:RvBx w W g gn gO k n V):RvBx w (W.setCell ⟨gO,2,none⟩ V') g gn gO k n V':=by
 have hc:=chg_set W gO 2 V'
 have hfar:=h.far
 have hglt:=h.glt
 refine ⟨blk_put h.out 2 _ rfl,(hc.block _ (blk_lt h.res) (by omega)).trans h.res,⟨hc.os.trans h.chg.os,hc.tape.trans h.chg.tape,hc.output.trans h.chg.output,Nat.le_trans h.chg.size hc.size,fun i hi hs=>?_⟩,hfar,hglt,h.nlt,h.ne⟩
 rw [hc.block i (Nat.lt_of_lt_of_le hi h.chg.size) (by omega),h.chg.block i hi hs]
def RvLst (W:World) (g gn:Nat) (l:List Lv):Except Int (List Lv × List Int × Int)→Prop
 | .ok (l',r,m)=>l=l'∧RR W g (.ok r)∧NumAt W gn m
 | .error e=>RR W g (.error e)∧∃ m,NumAt W gn m
def stP {α:Type}:Except Int (α × List Int × Int)→Except Int (List Int)
 | .ok (_,r,_)=>.ok r
 | .error e=>.error e
theorem RvLst.rr {W:World} {g gn:Nat} {l:List Lv} {R:Except Int (List Lv × List Int × Int)} (h:RvLst W g gn l R):RR W g (stP R):=by
 cases R with
 | error e=>exact h.1
 | ok x=>exact h.2.1
theorem RvLst.chg {W W':World} {g gn:Nat} {l:List Lv} {R:Except Int (List Lv × List Int × Int)} {S:Nat→Prop} (h:RvLst W g gn l R) (hS:∀ k,S k→g<k) (hn:¬ S gn) (hc:Chg S W W'):RvLst W' g gn l R:=by
 cases R with
 | error e=>exact ⟨h.1.chg hS hc,by obtain ⟨m,hm⟩:=h.2;exact ⟨m,hm.chgS hn hc⟩⟩
 | ok x=>exact ⟨h.1,h.2.1.chg hS hc,h.2.2.chgS hn hc⟩
structure RIn (w W:World) (g gn gO:Nat) (k n:Int) (V:Value) (xs:List Lv) (A:Option Addr) (c:Nat) (x:Lv):Prop where
 bx:RvBx w W g gn gO k n V
 kids:KidsAt W (gO+1) V xs
 kid:LvS W (fun b=>gO+1≤b∧V.ownBlock≠some b) A c x
 size:gO+1≤W.heap.size
theorem rin_in {w wr W3 w5:World} {g gn gO:Nat} {k n:Int} {V:Value} {xs:List Lv} {A:Option Addr} {c:Nat} {x:Lv} (hb:RvBx w wr g gn gO k n V) (hk:KidsAt wr (gO+1) V xs) (h3:Below wr.heap.size wr W3) (h5:Chg (fun k=>k=g∨k=gn) W3 w5) (hl:LvS w5 (fun b=>W3.heap.size≤b) A c x):RIn w w5 g gn gO k n V xs A c x:=by
 have hbb:Chg (fun k=>k=g∨k=gn) wr w5:=chg_trans (Chg.of_below h3) h5
 have hlt:=blk_lt hb.out
 have hfar:=hb.far
 have hglt:=hb.glt
 have hnlt:=hb.nlt
 refine ⟨hb.reader hbb,?_,hl.mono fun b hb' _=>⟨by have:=h3.size;omega,fun e=>?_⟩,by have:=hbb.size;omega⟩
 ·obtain ⟨cells,fA,fc,ho,hkk⟩:=hk
  exact ⟨cells,fA,fc,ownsRow_same ho fun b hb2=>hbb.block b (own_lt ho b hb2) (by have:=own_base ho b hb2;omega),fun i y hy=>⟨(hkk i y hy).1,(hkk i y hy).2.1,(hkk i y hy).2.2.1,(hkk i y hy).2.2.2.same fun b hb2 hz=>hbb.block b hz (by have:=hb2.1;omega)⟩⟩
 obtain ⟨cells,fA,fc,hown,_⟩:=hk
 have:=own_lt hown b e
 have:=h3.size
 omega
theorem RIn.drew {w W:World} {g gn gO:Nat} {k n:Int} {V:Value} {xs:List Lv} {A:Option Addr} {c:Nat} {x:Lv} (h:RIn w W g gn gO k n V xs A c x):RIn w W.drew g gn gO k n V xs A c x:=
 ⟨h.bx.below (below_drew (Below.refl _ _)),h.kids.later (below_drew (Below.refl _ _)),h.kid.later (below_drew (Below.refl _ _)),h.size⟩
theorem RIn.cell {w W:World} {g gn gO:Nat} {k n:Int} {V:Value} {xs:List Lv} {A:Option Addr} {c:Nat} {x:Lv} (h:RIn w W g gn gO k n V xs A c x):W.cell? ⟨gO,2,none⟩=some V:=by
 rw [cell_of_row _ _ _ _ _ _ h.bx.out];rfl
theorem RIn.cell2 {w W:World} {g gn gO:Nat} {k n:Int} {V:Value} {xs:List Lv} {A:Option Addr} {c:Nat} {x:Lv} (h:RIn w W g gn gO k n V xs A c x) (ob:Obj):(W.alloc ob).cell? ⟨gO,2,none⟩=some V:=by
 rw [cell_of_row _ _ _ _ _ _ (blk_alloc h.bx.out ob)];rfl
structure ROut (w W5 W:World) (g gn gO:Nat) (k n:Int) (V V6:Value) (xs:List Lv):Prop where
 bx:RvBx w W g gn gO k n V
 kids:KidsAt W (gO+1) V6 xs
 chg:Chg (fun k=>g<k∧gn<k) W5 W
theorem rin_push {w w5 w6:World} {g gn gO:Nat} {k n:Int} {V v6:Value} {xs:List Lv} {A:Option Addr} {c:Nat} {x:Lv} {cells:List Value} {fA:Nat→Option Addr} {fc:Nat→Nat} (h:RIn w w5 g gn gO k n V xs A c x)
  (ho:w5.ownsRow (gO+1) 24 3 V xs.length cells)
  (hk:∀ (i:Nat) (x:Lv),xs[i]?=some x→cells[i * 3]?=some (.int .i64 x.kind)∧cells[i * 3+1]?=some (.int .i64 x.num)∧cells[i * 3+2]?=some (.slice (fA i) x.kids.length (fc i))∧LvS w5 (fun b=>gO+1≤b∧V.ownBlock≠some b) (fA i) (fc i) x)
  (ho1:w6.ownsRow (gO+1) 24 3 v6 (xs.length+1) (cells ++ [.int .i64 x.kind,.int .i64 x.num,.slice A x.kids.length c])) (hg:w5.grownBy w6 V.ownBlock) (hat:v6.ownBlock=V.ownBlock∨∃ b,v6.ownBlock=some b∧w5.heap.size≤b):ROut w w5 w6 g gn gO k n V v6 (xs ++ [x]):=by
 have far:∀ k,k<gO+1→some k≠V.ownBlock:=fun k hk e=>by have:=own_base ho k e.symm;omega
 have hfar:=h.bx.far
 have hglt:=h.bx.glt
 have hnlt:=h.bx.nlt
 have hch:Chg (fun k=>gO+1≤k) w5 w6:=⟨hg.os,hg.tape,hg.output,hg.size,fun i hi hn=>hg.block i hi (far i (by omega))⟩
 refine ⟨⟨(hch.block _ (blk_lt h.bx.out) (by omega)).trans h.bx.out,(hch.block _ (blk_lt h.bx.res) (by omega)).trans h.bx.res,?_,hfar,hglt,hnlt,h.bx.ne⟩,KidsAt.push ho hk h.kid ho1 hg hat,hch.mono fun i hi=>by omega⟩
 refine ⟨hch.os.trans h.bx.chg.os,hch.tape.trans h.bx.chg.tape,hch.output.trans h.bx.chg.output,Nat.le_trans h.bx.chg.size hch.size,fun i hi hs=>?_⟩
 rw [hch.block i (Nat.lt_of_lt_of_le hi h.bx.chg.size) (by omega),h.bx.chg.block i hi hs]
structure RLoop (w W:World) (g gn gO:Nat) (k n:Int) (V:Value) (l:List Lv) (R:Except Int (List Lv × List Int × Int)) (j:Nat):Prop where
 bx:RvBx w W g gn gO k n V
 kids:KidsAt W (gO+1) V l
 st:RvLst W g gn l R
 len:l.length≤j
theorem KidsAt.far {w w':World} {lo:Nat} {V:Value} {xs:List Lv} {S:Nat→Prop} (h:KidsAt w lo V xs) (hc:Chg S w w') (hS:∀ k,S k→k<lo):KidsAt w' lo V xs:=by
 obtain ⟨cells,fA,fc,ho,hkk⟩:=h
 exact ⟨cells,fA,fc,ownsRow_same ho fun b hb2=>hc.block b (own_lt ho b hb2) (fun hs=>by have:=own_base ho b hb2;have:=hS b hs;omega),fun i y hy=>⟨(hkk i y hy).1,(hkk i y hy).2.1,(hkk i y hy).2.2.1,(hkk i y hy).2.2.2.same fun b hb2 hz=>hc.block b hz (fun hs=>by have:=hb2.1;have:=hS b hs;omega)⟩⟩
theorem rout_fin {w w5 w6:World} {g gn gO j:Nat} {k n:Int} {V V6:Value} {xs:List Lv} {R:Except Int (List Lv × List Int × Int)} (h:ROut w w5 w6 g gn gO k n V V6 xs) (hst:RvLst w5 g gn xs R) (hl:xs.length≤j) :
  ∃ v5 l5,Aside0 (RLoop w (w6.setCell ⟨gO,2,none⟩ V6) g gn gO k n v5 l5 R j):=by
 have hfar:=h.bx.far
 have hglt:=h.bx.glt
 have hnlt:=h.bx.nlt
 exact ⟨V6,xs,⟨h.bx.row,h.kids.other (chg_set _ _ _ _) (by omega),(hst.chg (S:=fun k=>g<k∧gn<k) (fun _ h=>h.1) (by omega) h.chg).chg (S:=fun k=>k=gO) (fun k e=>by omega) (by omega) (chg_set _ _ _ _),hl⟩⟩
theorem rl_next {w5:World} {g gn f j:Nat} {m m1:Int} {R0:Except Int (Int × List Int)} {l:List Lv} {l5:Lv} {W:World} (h:RvLst W g gn l (lvPre f R0 m j)) (hm:∀ l' r m',lvPre f R0 m j=.ok (l',r,m')→m1=m') (hp:RvSt w5 g gn l5 (nextLv f (stP (lvPre f R0 m j)) m1)):RvLst w5 g gn (l ++ [l5]) (lvPre f R0 m (j+1)):=by
 cases h0:lvPre f R0 m j with
 | error e=>rw [lvPre_err h0];rw [h0] at hp;exact hp
 | ok x =>
  obtain ⟨l',r,m'⟩:=x
  rw [h0] at h hp
  obtain rfl:=hm _ _ _ h0
  obtain ⟨rfl,-,-⟩:=h
  rw [lvPre_ok h0]
  change RvSt w5 g gn l5 (lvR f r m1) at hp
  cases hl:lvR f r m1 with
  | error e=>rw [hl] at hp;exact hp
  | ok y=>rw [hl] at hp;exact ⟨by rw [hp.1],hp.2⟩
theorem lvPre_stop {f:Nat} {R0:Except Int (Int × List Int)} {m e:Int} {j:Nat} (h:lvPre f R0 m j=.error e):∀ i,lvPre f R0 m (j+i)=.error e
 | 0=>h
 | i+1=>lvPre_err (lvPre_stop h i)
theorem lvR_stop {f:Nat} {xs r:List Int} {m k e:Int} {j:Nat} (hK:kindR 4 xs=.ok (k,r)) (hm:m<100) (hj:j≤lvKids k) (h:lvPre f (lvNum k r) (m+1) j=.error e):lvR (f+1) xs m=.error e:=by
 have:=lvPre_stop h (lvKids k - j)
 rw [show j+(lvKids k - j)=lvKids k by omega] at this
 rw [lvR_pre hK hm,this]
theorem rlLoop_start {w W:World} {g gn gO f:Nat} {k n m:Int} {R0:Except Int (Int × List Int)} (hb:RvBx w W g gn gO k n (.slice none 0 0)) (h:RR W g (restR R0)) (hm:NumAt W gn m):RLoop w W g gn gO k n (.slice none 0 0) [] (lvPre f R0 m 0) 0:=by
 refine ⟨hb,KidsAt.nil _ _,?_,Nat.le_refl _⟩
 cases R0 with
 | error er=>exact ⟨h,m,hm⟩
 | ok x=>exact ⟨rfl,h,hm⟩
theorem rlLoop_end {w W:World} {g gn gO f:Nat} {k m:Int} {A:Option Addr} {L c j:Nat} {l:List Lv} {xs r:List Int} (hK:kindR 4 xs=.ok (k,r)) (hm:m<100) {n:Int} (hn:n=okNum (lvNum k r)) (hj:j≤lvKids k)
  (h:RLoop w W g gn gO k n (.slice A L c) l (lvPre f (lvNum k r) (m+1) j) j) (hL:L=l.length) (hfin:j=lvKids k∨∃ e,lvPre f (lvNum k r) (m+1) j=.error e) :
  RvPost w g gn (lvR (f+1) xs m) (.returned (.agg #[.int .i64 k,.int .i64 n,.slice A L c])) (((W.setCell ⟨w.heap.size,0,none⟩ (.int .i64 k)).setCell ⟨w.heap.size,1,none⟩ (.int .i64 n)).setCell ⟨w.heap.size,2,none⟩ (.slice A L c)):=by
 obtain ⟨A',c',e,hl⟩:=h.kids.level
 injection e with e1 _ e2
 subst e1;subst e2
 have hs:=h.st
 refine rvPost_fin h.bx hL ((hl k n).mono fun b hb _=>by omega) ?_
 cases hp:lvPre f (lvNum k r) (m+1) j with
 | error e=>rw [lvR_stop hK hm hj hp];rw [hp] at hs;exact hs
 | ok x =>
  obtain rfl:j=lvKids k:=by
   rcases hfin with h | ⟨e,h⟩
   ·exact h
   ·rw [hp] at h;cases h
  rw [lvR_pre hK hm,hp]
  obtain ⟨l',r1,m1⟩:=x
  rw [hp] at hs
  exact ⟨by rw [hs.1,hn],hs.2⟩
end Go.Proofs.Ytcgkeolgflphiaa

namespace Go.Proofs.Ytcgkeolgflphiaa
open Go.RowKit Go.Proofs.YtcgkeolgflphiaaW.PrintWords Go.RegionInvYtcgkeolgflphiaa

theorem rl_count {W:World} {g gn f j:Nat} {m:Int} {l:List Lv} {R0:Except Int (Int × List Int)} (h:RvLst W g gn l (lvPre f R0 m j)) (h0:0≤m) (h1:m≤100):∃ m1,NumAt W gn m1∧(∀ l' r m',lvPre f R0 m j=.ok (l',r,m')→m1=m')∧∀ xs,stP (lvPre f R0 m j)=.ok xs→0≤m1∧m1≤100:=by
 cases hp:lvPre f R0 m j with
 | error e =>
  rw [hp] at h
  obtain ⟨-,m1,hm⟩:=h
  exact ⟨m1,hm,by simp,by rintro xs ⟨⟩⟩
 | ok x =>
  obtain ⟨l',r,m'⟩:=x
  rw [hp] at h
  refine ⟨m',h.2.2,fun a b c e=>?_,fun xs _=>lvPre_grow hp h0 h1⟩
  simp only [Except.ok.injEq,Prod.mk.injEq] at e
  exact e.2.2
theorem ar5_1 (W:World):(Instr.index 145 (.agg #[.int .i64 0,.int .i64 0,.int .i64 0,.int .i64 1,.int .i64 2]) (.int .i64 1)).run Try.prog W=.ok (.int .i64 0) W:=by kernel_rfl
theorem ar5_2 (W:World):(Instr.index 145 (.agg #[.int .i64 0,.int .i64 0,.int .i64 0,.int .i64 1,.int .i64 2]) (.int .i64 2)).run Try.prog W=.ok (.int .i64 0) W:=by kernel_rfl
theorem ar5_3 (W:World):(Instr.index 145 (.agg #[.int .i64 0,.int .i64 0,.int .i64 0,.int .i64 1,.int .i64 2]) (.int .i64 3)).run Try.prog W=.ok (.int .i64 1) W:=by kernel_rfl
theorem ar5_4 (W:World):(Instr.index 145 (.agg #[.int .i64 0,.int .i64 0,.int .i64 0,.int .i64 1,.int .i64 2]) (.int .i64 4)).run Try.prog W=.ok (.int .i64 2) W:=by kernel_rfl
set_option maxRecDepth 20000 in
set_option maxHeartbeats 8000000 in
theorem rlevel_step (f:Nat) (IH0:∀ f',f'<f→∀ (g gn:Nat) (s:Except Int (List Int)) (m d:Int) (w:World),1≤d→(f':Int)+d=33→(∀ xs,s=.ok xs→0≤m∧m≤100)→RR w g s→NumAt w gn m→g<gn→Calls Try.prog 111 #[.pointer (some ⟨g,0,none⟩),.int .i64 d,.pointer (some ⟨gn,0,none⟩)] w (RvPost w g gn (nextLv f' s m)))
  (g gn:Nat) (s:Except Int (List Int)) (m d:Int) (w:World) (hd0:1≤d) (hd:(f:Int)+d=33) (hm:∀ xs,s=.ok xs→0≤m∧m≤100) (h:RR w g s) (hn:NumAt w gn m) (hne:g<gn) :
  Calls Try.prog 111 #[.pointer (some ⟨g,0,none⟩),.int .i64 d,.pointer (some ⟨gn,0,none⟩)] w (RvPost w g gn (nextLv f s m)):=by
 have HR:=Ak h
 have HN:=Ak hn
 have HGL:=Ak h.lt
 have HNL:=Ak (blk_lt hn)
 have HNE:=Ak hne
 have HM:=Ak hm
 have IH:=Ak IH0
 have hk8:=byteS_u8 h.bytes
 obtain ⟨k,hk⟩:∃ k,k=(byteS s).1:=⟨_,rfl⟩
 rw [← hk] at hk8
 have HK:=Ak hk
 clear h hn hne IH0 hk hm
 go_enter Try.func111,Try.ntmps111
 go_upto_region 2 with (go_at_call 69;go_must (refine (rbyte_any g s _ (HR.out.below (below_alloc (Below.refl _ _) _))).mono ?_;rintro e w2 ⟨rfl,hc,hst⟩;rw [← HK.out];have HBX:=Ak (rvBx_new (k:=k) HGL.out HNL.out HNE.out hc);have HN2:=Ak (((HN.out.alloc _).chgS (S:=fun k=>k=g) (by have:=HNE.out;omega) hc).alloc (lvO k 0 (.slice none 0 0)));have HST:=Ak (hst.below (below_alloc (Below.refl _ _) (lvO k 0 (.slice none 0 0))));clear hc hst))
 obtain ⟨gO,hgO⟩:∃ gO,gO=w2.heap.size:=⟨_,rfl⟩
 rw [← hgO] at HBX ⊢
 obtain ⟨W3,hW3⟩:∃ W3,W3=w2.alloc (lvO k 0 (.slice none 0 0)):=⟨_,rfl⟩
 rw [← hW3] at HBX HST HN2 ⊢
 clear hW3 hgO HN
 obtain ⟨s1,hs1⟩:∃ s1,s1=(byteS s).2:=⟨_,rfl⟩
 rw [← hs1] at HST
 have HS1:=Ak hs1
 clear hs1
 go_cut [29] (fun u w5=>u=.bool (badB 4 s1 k)∧w5=W3)
 case first =>
  obtain ⟨A3,n3,c3,e3,hg3,hbx3⟩:=HST.out.box
  obtain ⟨c0,c1,-,-⟩:=row2t hg3
  obtain ⟨d0,d1,d2,y0,y1,y2⟩:=row3l HBX.out.out
  clear hg3
  cases s1 with
  | error er =>
   obtain ⟨rfl,hne⟩:=hbx3
   have he:(e3 == 0)=false:=by simp [hne]
   clear hne
   go_wp2
   go_meet
   case rel=>exact ⟨rfl,rfl⟩
  | ok ys =>
   obtain ⟨rfl,-⟩:=hbx3
   by_cases k1:k<1
   ·have hk1:decide (k<1)=true:=decide_eq_true k1
    have HB:=Ak (show badB 4 (.ok ys) k=true from decide_eq_true (.inl k1))
    clear k1
    go_wp2
    go_meet
    case rel=>exact ⟨by rw [HB.out],rfl⟩
   ·by_cases k4:4<k
    ·have hk1:decide (k<1)=false:=decide_eq_false k1
     have hk4:decide (4<k)=true:=decide_eq_true k4
     have HB:=Ak (show badB 4 (.ok ys) k=true from decide_eq_true (.inr k4))
     clear k1 k4
     go_wp2
     go_meet
     case rel=>exact ⟨by rw [HB.out],rfl⟩
    ·have hk1:decide (k<1)=false:=decide_eq_false k1
     have hk4:decide (4<k)=false:=decide_eq_false k4
     have HB:=Ak (show badB 4 (.ok ys) k=false from decide_eq_false (by omega))
     clear k1 k4
     go_wp2
     go_meet
     case rel=>exact ⟨by rw [HB.out],rfl⟩
 case rest =>
  obtain ⟨rfl,rfl⟩:=hcut
  go_upto_if 29 with (fail)
  go_cut [] (fun w5=>Aside0 (RvBx w w5 g gn gO k 0 (.slice none 0 0))∧Aside0 (RR w5 g (kindS 4 s))∧Aside0 (NumAt w5 gn m))
  case first =>
   cases hb:badB 4 s1 k with
   | true =>
    have HB:=Ak hb
    clear hb
    go_wp2_with (go_at_call 70;go_must (refine (rfail_any g s1 4 _ HST.out (by decide)).mono ?_;rintro e w5 ⟨rfl,hc,hst⟩;have HC5:=Ak hc;have HST5:=Ak hst;clear hc hst))
    go_meet
    case rel=>exact ⟨⟨HBX.out.reader (chg_one HC5.out)⟩,⟨by unfold kindS;rw [← HS1.out,← HK.out,if_pos HB.out];exact HST5.out⟩,⟨HN2.out.chgS (S:=fun k=>k=g) (by have:=HNE.out;omega) HC5.out⟩⟩
   | false =>
    have HB:=Ak hb
    clear hb
    go_wp2
    go_meet
    case rel=>exact ⟨HBX,⟨by unfold kindS;rw [← HS1.out,← HK.out,HB.out,if_neg (by simp)];exact HST.out⟩,HN2⟩
  case rest =>
   clear HBX HST HN2
   obtain ⟨HBX,HST,HN⟩:=hcut
   have hnc:=HN.out.cell
   have hnz:=blk_frozen HN.out 0
   go_upto_region 5 with (fail)
   obtain ⟨mm,hmm⟩:∃ mm,mm=wrap64 (m+1):=⟨_,rfl⟩
   rw [← hmm]
   have HMM:=Ak (show ∀ xs,s=.ok xs→mm=m+1 from fun xs hx=>by have:=HM.out xs hx;rw [hmm];unfold wrap64;omega)
   have HB4:=Ak (HBX.out.reader (chg_two (g:=g) (chg_set wc gn 0 (.int .i64 mm))))
   have HN4:=Ak (HN.out.set mm)
   have HST4:=Ak (HST.out.chgS gn (.int .i64 mm) HNE.out)
   obtain ⟨W4,hW4⟩:∃ W4,W4=wc.setCell ⟨gn,0,none⟩ (.int .i64 mm):=⟨_,rfl⟩
   rw [← hW4] at HB4 HN4 HST4 ⊢
   clear hW4 HBX HST HN hnc hnz hmm
   have hnc:=HN4.out.cell
   go_cut [46] (fun u w5=>u=.bool (decide (32<d∨100<mm))∧w5=W4)
   case first =>
    by_cases d1:32<d
    ·have hd1:decide (32<d)=true:=decide_eq_true d1
     have HB:=Ak (show decide (32<d∨100<mm)=true from decide_eq_true (.inl d1))
     clear d1
     go_wp2
     go_meet
     case rel=>exact ⟨by rw [HB.out],rfl⟩
    ·have hd1:decide (32<d)=false:=decide_eq_false d1
     by_cases d2:100<mm
     ·have hd2:decide (100<mm)=true:=decide_eq_true d2
      have HB:=Ak (show decide (32<d∨100<mm)=true from decide_eq_true (.inr d2))
      clear d1 d2
      go_wp2
      go_meet
      case rel=>exact ⟨by rw [HB.out],rfl⟩
     ·have hd2:decide (100<mm)=false:=decide_eq_false d2
      have HB:=Ak (show decide (32<d∨100<mm)=false from decide_eq_false (by omega))
      clear d1 d2
      go_wp2
      go_meet
      case rel=>exact ⟨by rw [HB.out],rfl⟩
   case rest =>
    obtain ⟨rfl,rfl⟩:=hcut
    obtain ⟨bb,hbb⟩:∃ bb,bb=decide (32<d∨100<mm):=⟨_,rfl⟩
    rw [← hbb]
    have HBB:=Ak hbb
    clear hbb
    go_upto_if 46 with (fail)
    go_cut [] (fun w5=>Aside0 (RvBx w w5 g gn gO k 0 (.slice none 0 0))∧Aside0 (RR w5 g (deepS bb (kindS 4 s)))∧Aside0 (NumAt w5 gn mm))
    case first =>
     cases bb with
     | true =>
      go_wp2_with (go_at_call 70;go_must (refine (rfail_any g (kindS 4 s) 2 _ HST4.out (by decide)).mono ?_;rintro e w5 ⟨rfl,hc,hst⟩;have HC5:=Ak hc;have HST5:=Ak hst;clear hc hst))
      go_meet
      case rel=>exact ⟨⟨HB4.out.reader (chg_one HC5.out)⟩,⟨HST5.out⟩,⟨HN4.out.chgS (S:=fun k=>k=g) (by have:=HNE.out;omega) HC5.out⟩⟩
     | false =>
      go_wp2
      go_meet
      case rel=>exact ⟨HB4,HST4,HN4⟩
    case rest =>
     clear HB4 HST4 HN4 hnc
     obtain ⟨HBX,HST,HN⟩:=hcut
     obtain ⟨s3,hs3⟩:∃ s3,s3=deepS bb (kindS 4 s):=⟨_,rfl⟩
     rw [← hs3] at HST
     obtain ⟨A5,n5,c5,e5,hg5,hbx5⟩:=HST.out.box
     obtain ⟨c0,c1,-,-⟩:=row2t hg5
     clear hg5
     cases s3 with
     | error er =>
      obtain ⟨rfl,hne⟩:=hbx5
      have he:(e5 != 0)=true:=by simp [hne]
      have HE:=Ak (show nextLv f s m=.error e5 from nextLv_err hd0 hd HMM.out (by rw [← HBB.out];exact hs3.symm))
      clear hne hs3
      obtain ⟨d0,d1,d2,y0,y1,y2⟩:=row3l HBX.out.out
      obtain ⟨x0,x1,x2,v0,v1,v2⟩:=row3l HBX.out.res
      go_wp2
      refine bodyPost_ret (results_c rfl _ _ w.heap.size 24 #[.int .i64 k,.int .i64 0,.slice none 0 0] (0,0) _ rfl (HBX.out.set _ _ _) Try.underlying24 rfl (by kernel_rfl)) rfl ?_
      exact rvPost_fin0 HBX.out HE.out HST.out HN.out
     | ok r =>
      obtain ⟨rfl,-⟩:=hbx5
      obtain ⟨hbf,hk2⟩:=deepS_ok hs3.symm
      obtain ⟨xs,rfl,hK⟩:=kindS_ok hk2
      rw [← HK.out] at hK
      have hm0:=HM.out xs rfl
      obtain rfl:=HMM.out xs rfl
      have hbf2:=of_decide_eq_false (HBB.out.symm.trans hbf)
      obtain ⟨f,rfl⟩:∃ f',f=f'+1:=⟨f - 1,by omega⟩
      have hk:=(kind_put hK).2
      have HKR:=Ak hK
      have hm1:m<100:=by omega
      clear hs3 hbf hk2 hK HMM
      obtain ⟨nn,hnn⟩:∃ nn,nn=okNum (lvNum k r):=⟨_,rfl⟩
      have HNN:=Ak hnn
      clear hnn
      obtain ⟨mm,hmm⟩:∃ mm,mm=m+1:=⟨_,rfl⟩
      have hmm1:0≤mm∧mm≤100:=by omega
      rw [← hmm] at HN
      have HMM:=Ak hmm
      clear hmm
      obtain ⟨d0,d1,d2,y0,y1,y2⟩:=row3l HBX.out.out
      go_upto_if 60 with (fail)
      clear c0 c1 d0 d1 d2 y0 y1 y2
      go_cut [] (fun w5=>Aside0 (RvBx w w5 g gn gO k nn (.slice none 0 0))∧Aside0 (RR w5 g (restR (lvNum k r)))∧Aside0 (NumAt w5 gn mm))
      case first =>
       by_cases k4:k=4
       ·have HR0:=Ak (show lvNum k r=.ok (0,r) by unfold lvNum;rw [if_pos k4])
        have hk4:(k != 4)=false:=by simp [k4]
        have hnn0:nn=0:=by rw [HNN.out,HR0.out];rfl
        subst hnn0
        clear k4
        go_wp2
        go_meet
        case rel=>exact ⟨HBX,⟨by rw [HR0.out];exact HST.out⟩,HN⟩
       ·have HR0:=Ak (show lvNum k r=numR r by unfold lvNum;rw [if_neg k4])
        have hk4:(k != 4)=true:=by simp [k4]
        clear k4
        go_wp2_with (go_at_call 72;go_must (refine (rnumber_any g (.ok r) _ HST.out).mono ?_;rintro e w6 ⟨rfl,hc,hst⟩;rw [show okNum (nextR (.ok r) numR)=nn by rw [HNN.out,HR0.out];rfl];have HB6:=Ak (HBX.out.reader (chg_one hc));have HST6:=Ak (show RR w6 g (restR (numR r)) from hst);have HN6:=Ak (HN.out.chgS (S:=fun k=>k=g) (by have:=HNE.out;omega) hc);clear hc hst;obtain ⟨p0,p1,p2,q0,q1,q2⟩:=row3l HB6.out.out))
        go_meet
        case rel=>exact ⟨⟨HB6.out.num⟩,⟨by rw [HR0.out];exact HST6.out.chg (S:=fun k=>k=gO) (fun k e=>by have:=HB6.out.far;have:=HB6.out.glt;omega) (chg_set _ _ _ _)⟩,⟨HN6.out.chgS (S:=fun k=>k=gO) (by have:=HB6.out.far;have:=HB6.out.nlt;omega) (chg_set _ _ _ _)⟩⟩
      case rest =>
       clear HBX HST HN
       obtain ⟨HBX,HST,HN⟩:=hcut
       obtain ⟨d0,-,-,y0,-,-⟩:=row3l HBX.out.out
       go_upto_region 11 with (fail)
       obtain ⟨K,hKK⟩:∃ K,K=lvKids k:=⟨_,rfl⟩
       have hK2:K≤2:=by rw [hKK];unfold lvKids;split;exact Nat.le_refl _;split <;> decide
       go_cut [67,68] (fun u v w5=>u=.int .i64 K∧v=.int .i64 0∧w5=wc)
       case first =>
        rcases (show k=1∨k=2∨k=3∨k=4 by omega) with k1 | k1 | k1 | k1
        ·subst k1
         rw [show lvKids 1=0 from rfl] at hKK
         subst hKK
         have hix:=ar5_1
         clear hK2
         go_wp2
         go_meet
         case rel=>exact ⟨rfl,rfl,rfl⟩
        ·subst k1
         rw [show lvKids 2=0 from rfl] at hKK
         subst hKK
         have hix:=ar5_2
         clear hK2
         go_wp2
         go_meet
         case rel=>exact ⟨rfl,rfl,rfl⟩
        ·subst k1
         rw [show lvKids 3=1 from rfl] at hKK
         subst hKK
         have hix:=ar5_3
         clear hK2
         go_wp2
         go_meet
         case rel=>exact ⟨rfl,rfl,rfl⟩
        ·subst k1
         rw [show lvKids 4=2 from rfl] at hKK
         subst hKK
         have hix:=ar5_4
         clear hK2
         go_wp2
         go_meet
         case rel=>exact ⟨rfl,rfl,rfl⟩
       case rest =>
        obtain ⟨rfl,rfl,rfl⟩:=hcut
        have HKK:=Ak hKK
        clear d0 y0 hKK
        go_wp2
        go_loopw [68] (fun i wr=>∃ (j:Nat) (V:Value) (l:List Lv),i=.int .i64 j∧j≤K∧Aside0 (RLoop w wr g gn gO k nn V l (lvPre f (lvNum k r) mm j) j)) (fun i _=>K - (intOf i).toNat)
        case atStart=>exact ⟨0,_,_,rfl,Nat.zero_le _,⟨rlLoop_start HBX.out HST.out HN.out⟩⟩
        case round =>
         obtain ⟨j,V,l,rfl,hj,HL⟩:=hrel
         by_cases hlt:j<K
         ·obtain ⟨m1,hnm,hmq,hmb⟩:=rl_count HL.out.st hmm1.1 hmm1.2
          have HNM:=Ak hnm
          have HMQ:=Ak hmq
          have HMB:=Ak hmb
          have HRS:=Ak HL.out.st.rr
          have hlen:=HL.out.len
          have hcv:=(row3l HL.out.bx.out).2.2.1
          have hcz:=(row3l HL.out.bx.out).2.2.2.2.2
          clear hnm hmq hmb
          go_upto_region 13 with (fail)
          go_cut [] (fun w5=>∃ v5 l5,Aside0 (RLoop w w5 g gn gO k nn v5 l5 (lvPre f (lvNum k r) mm (j+1)) (j+1)))
          case first =>
           have hw9:IntKind.i64.wrap (d+1)=d+1:=IntWalk.i64_in _ (by omega)
           go_region_law (first
            | (go_simp;go_at_call 111;(try rw [hw9]);refine (IH.out f (Nat.lt_succ_self f) g gn _ m1 (d+1) _ (by omega) (by omega) HMB.out (HRS.out.below (by repeat' first | exact Below.refl _ _ | apply below_drew | apply below_alloc)) (HNM.out.below (by repeat' first | exact Below.refl _ _ | apply below_drew | apply below_alloc)) HNE.out).mono ?_;rintro e w5 ⟨A5,c5,l5,rfl,hl5,hc5,hm5⟩;have ST5:=Ak (rin_in HL.out.bx HL.out.kids (by repeat' first | exact Below.refl _ _ | apply below_drew | apply below_alloc) hc5 hl5);have HST5:=Ak (rl_next HL.out.st HMQ.out hm5);have hcv5:=ST5.out.cell;have hcz5:=blk_frozen ST5.out.bx.out 2;have hcw5:=ST5.out.cell2 (.cells #[.int .i64 l5.kind,.int .i64 l5.num,.slice A5 l5.kids.length c5] 24 (0,0));clear hl5 hc5 hm5;simp only [lvV])
            | (first
              | (have STA:=Ak ST5.out;obtain ⟨cells,fA,fc,hown,hkids⟩:=STA.out.kids;refine step_append_cells (w0:=w5) (W:=w5) (gO+1) (by simp [Region.wanted]) (.tmp 71) (.tmp 77) 22 24 _ 3 40 rfl Try.underlying22 infoLv rfl (by decide) (by decide) V l.length cells [.int .i64 l5.kind,.int .i64 l5.num,.slice A5 l5.kids.length c5] rfl rfl rfl (by simp [Value.oneCell']) hown (Below.refl _ _) STA.out.size (by omega) ?_;intro v6 w6 ho6 _ hg6 hat6;obtain ⟨A6,c6,rfl⟩:=own_slice ho6;have ST6:=Ak (rin_push STA.out hown hkids ho6 hg6 hat6);have HSTX:=Ak (HST5.out.chg (S:=fun _=>False) (fun _ h=>h.elim) (fun h=>h) (Chg.of_below (by repeat' first | exact Below.refl _ _ | apply below_drew)):RvLst w5 g gn (l ++ [l5]) (lvPre f (lvNum k r) mm (j+1)));have hcv6:=ST6.out.bx.out;replace hcv6:=(row3l hcv6).2.2.1;have hcz6:=blk_frozen ST6.out.bx.out 2;clear hown hkids ho6 hg6 hat6 STA)
              | (have STA:=Ak ST5.out.drew;obtain ⟨cells,fA,fc,hown,hkids⟩:=STA.out.kids;refine step_append_cells (w0:=w5.drew) (W:=w5.drew) (gO+1) (by simp [Region.wanted]) (.tmp 71) (.tmp 77) 22 24 _ 3 40 rfl Try.underlying22 infoLv rfl (by decide) (by decide) V l.length cells [.int .i64 l5.kind,.int .i64 l5.num,.slice A5 l5.kids.length c5] rfl rfl rfl (by simp [Value.oneCell']) hown (Below.refl _ _) STA.out.size (by omega) ?_;intro v6 w6 ho6 _ hg6 hat6;obtain ⟨A6,c6,rfl⟩:=own_slice ho6;have ST6:=Ak (rin_push STA.out hown hkids ho6 hg6 hat6);have HSTX:=Ak (HST5.out.chg (S:=fun _=>False) (fun _ h=>h.elim) (fun h=>h) (Chg.of_below (by repeat' first | exact Below.refl _ _ | apply below_drew)):RvLst w5.drew g gn (l ++ [l5]) (lvPre f (lvNum k r) mm (j+1)));have hcv6:=ST6.out.bx.out;replace hcv6:=(row3l hcv6).2.2.1;have hcz6:=blk_frozen ST6.out.bx.out 2;clear hown hkids ho6 hg6 hat6 STA)
              | (trace_state;fail)))
           all_goals (try go_wp2)
           all_goals go_meet
           all_goals (exact rout_fin ST6.out HSTX.out (by simp only [List.length_append,List.length_singleton];omega))
          case rest =>
           clear HL hcv hcz HRS HNM HMQ HMB hlen
           obtain ⟨V2,l2,HL⟩:=hcut
           obtain ⟨A6,n6,c6,e6,hg6,hbx6⟩:=HL.out.st.rr.box
           obtain ⟨-,b1,-,-⟩:=row2t hg6
           clear hg6
           cases hP:lvPre f (lvNum k r) mm (j+1) with
           | error er =>
            rw [hP] at hbx6
            obtain ⟨rfl,hne⟩:=hbx6
            have he:(e6 != 0)=true:=by simp [hne]
            have HP:=Ak hP
            obtain ⟨A9,c9,rfl,-⟩:=HL.out.kids.level
            obtain ⟨L9,hL9⟩:∃ L9,L9=l2.length:=⟨_,rfl⟩
            rw [← hL9] at HL
            have HL9:=Ak hL9
            obtain ⟨d0,d1,d2,y0,y1,y2⟩:=row3l HL.out.bx.out
            obtain ⟨e0,e1,e2,x0,x1,x2⟩:=row3l HL.out.bx.res
            clear hL9 hne hP
            go_wp2
            refine bodyPost_ret (results_c rfl _ _ w.heap.size 24 #[.int .i64 k,.int .i64 nn,.slice A9 L9 c9] (0,0) _ rfl (HL.out.bx.set _ _ _) Try.underlying24 rfl (by kernel_rfl)) rfl ?_
            have HLX:=HL.out
            have HPX:=HP.out
            rw [HMM.out] at HLX HPX
            exact rlLoop_end HKR.out hm1 HNN.out (by rw [← HKK.out];omega) HLX HL9.out (.inr ⟨_,HPX⟩)
           | ok x =>
            rw [hP] at hbx6
            obtain ⟨rfl,-⟩:=hbx6
            clear hP
            go_wp2
            go_roundw
            case rel=>exact ⟨j+1,V2,l2,by go_num,by omega,HL⟩
            case measure=>(simp [intOf];try omega)
         ·obtain rfl:j=K:=by omega
          have hlt':decide ((j:Int)<j)=false:=by simp
          obtain ⟨A9,c9,rfl,-⟩:=HL.out.kids.level
          obtain ⟨L9,hL9⟩:∃ L9,L9=l.length:=⟨_,rfl⟩
          rw [← hL9] at HL
          have HL9:=Ak hL9
          obtain ⟨d0,d1,d2,y0,y1,y2⟩:=row3l HL.out.bx.out
          obtain ⟨e0,e1,e2,x0,x1,x2⟩:=row3l HL.out.bx.res
          clear hL9
          go_wp2
          refine bodyPost_ret (results_c rfl _ _ w.heap.size 24 #[.int .i64 k,.int .i64 nn,.slice A9 L9 c9] (0,0) _ rfl (HL.out.bx.set _ _ _) Try.underlying24 rfl (by kernel_rfl)) rfl ?_
          have HLX:=HL.out
          rw [HMM.out] at HLX
          exact rlLoop_end HKR.out hm1 HNN.out (by rw [← HKK.out];omega) HLX HL9.out (.inl HKK.out)
theorem rlevel_any (f:Nat):∀ (g gn:Nat) (s:Except Int (List Int)) (m d:Int) (w:World),1≤d→(f:Int)+d=33→(∀ xs,s=.ok xs→0≤m∧m≤100)→RR w g s→NumAt w gn m→g<gn→Calls Try.prog 111 #[.pointer (some ⟨g,0,none⟩),.int .i64 d,.pointer (some ⟨gn,0,none⟩)] w (RvPost w g gn (nextLv f s m)):=by
 induction f using Nat.strongRecOn with
 | _ f ih=>exact fun g gn s m d w h1 h2 h3 h4 h5 h6=>rlevel_step f ih g gn s m d w h1 h2 h3 h4 h5 h6
end Go.Proofs.Ytcgkeolgflphiaa

namespace Go.Proofs.Ytcgkeolgflphiaa
open Go.RowKit Go.Proofs.YtcgkeolgflphiaaW.PrintWords Go.RegionInvYtcgkeolgflphiaa

def nextTm (f:Nat) (s:Except Int (List Int)) (m:Int):Except Int (Tm × List Int × Int):=match s with
 | .error e=>.error e
 | .ok xs=>tmR f xs m
theorem nextTm_err {f:Nat} {s:Except Int (List Int)} {m mm d e:Int} (hd1:1≤d) (hd:(f:Int)+d=65) (hmm:∀ xs,s=.ok xs→mm=m+1) (h:deepS (decide (64<d∨400<mm)) (kindS 7 s)=.error e):nextTm f s m=.error e:=by
 cases s with
 | error e'=>rcases deepS_err h with h | ⟨-,-,r,h⟩ <;> cases h;rfl
 | ok xs =>
  obtain rfl:=hmm xs rfl
  rw [kindS_eq] at h
  show tmR f xs m=.error e
  cases hk:kindR 7 xs with
  | error e' =>
   have hs:restR (nextR (.ok xs) (kindR 7))=.error e':=by show restR (kindR 7 xs)=_;rw [hk];rfl
   rw [hs] at h
   rcases deepS_err h with h | ⟨-,-,r,h⟩ <;> cases h
   cases f with
   | zero=>rw [tmR,hk]
   | succ f=>rw [tmR,hk]
  | ok x =>
   obtain ⟨k,r⟩:=x
   have hs:restR (nextR (.ok xs) (kindR 7))=.ok r:=by show restR (kindR 7 xs)=_;rw [hk];rfl
   rw [hs] at h
   rcases deepS_err h with h | ⟨hb,rfl,-⟩
   ·cases h
   ·have hb:=of_decide_eq_true hb
    cases f with
    | zero=>rw [tmR,hk]
    | succ f=>rw [tmR,hk];simp only [];rw [if_pos (by omega)]
theorem tmPre_stop {f:Nat} {R0:Except Int (TOwn × List Int)} {m e:Int} {j:Nat} (h:tmPre f R0 m j=.error e):∀ i,tmPre f R0 m (j+i)=.error e
 | 0=>h
 | i+1=>tmPre_err (tmPre_stop h i)
theorem tmR_stop {f:Nat} {xs r:List Int} {m k e:Int} {j:Nat} (hK:kindR 7 xs=.ok (k,r)) (hm:m<400) (hj:j≤tmKids k) (h:tmPre f (tmOwn k r) (m+1) j=.error e):tmR (f+1) xs m=.error e:=by
 have:=tmPre_stop h (tmKids k - j)
 rw [show j+(tmKids k - j)=tmKids k by omega] at this
 rw [tmR_pre hK hm,this]
 rfl
theorem many_snoc {α:Type} {f:List Int→Except Int (α × List Int)}:∀ (n:Nat) (xs:List Int),manyR f (n+1) xs=match manyR f n xs with
  | .error e=>.error e
  | .ok (l,r)=>match f r with
   | .error e=>.error e
   | .ok (t,r')=>.ok (l ++ [t],r')
 | 0,xs=>by
  simp only [manyR]
  cases f xs with
  | error e=>rfl
  | ok x=>rfl
 | n+1,xs=>by
  have ih:=fun r=>many_snoc (f:=f) n r
  rw [manyR]
  cases h1:f xs with
  | error e=>simp only [manyR,h1]
  | ok x =>
   obtain ⟨t,r⟩:=x
   simp only []
   rw [ih r]
   conv=>rhs;rw [manyR,h1]
   simp only []
   cases manyR f n r with
   | error e=>rfl
   | ok y =>
    obtain ⟨l,r'⟩:=y
    simp only []
    cases f r' with
    | error e=>rfl
    | ok z=>rfl
theorem many_stop {α:Type} {f:List Int→Except Int (α × List Int)} {xs:List Int} {e:Int} {n:Nat} (h:manyR f n xs=.error e):∀ i,manyR f (n+i) xs=.error e
 | 0=>h
 | i+1=>by
  rw [← Nat.add_assoc,many_snoc,many_stop h i]
theorem listR_num {α:Type} {most:Int} (f:List Int→Except Int (α × List Int)) (xs:List Int):listR most f xs=match rNumR most 18 xs with
  | .error e=>.error e
  | .ok (n,r)=>manyR f n.toNat r:=by
 unfold listR rNumR
 split
 ·rfl
 ·split
  ·rfl
  ·rfl
structure TqBx (w W:World) (g gn gO:Nat) (k:Int) (o:TOwn) (p:Pl) (V:Value):Prop where
 out:W.heap[gO]?=some (tmbO k o p V)
 res:W.heap[w.heap.size]?=some (tzO 0)
 chg:Chg (fun k=>k=g∨k=gn) w W
 far:w.heap.size<gO
 glt:g<w.heap.size
 nlt:gn<w.heap.size
 ne:g<gn
 lvs:LvS W (fun b=>gO<b) p.A p.c o.lv
 lss:LvS W (fun b=>gO<b) p.B p.d (.mk 0 0 o.ls)
 fit:Fit o.n o.s o.ls
def TqSt (W:World) (g gn:Nat) (t:Tm):Except Int (Tm × List Int × Int)→Prop
 | .ok (t',r,m)=>t=t'∧RR W g (.ok r)∧NumAt W gn m
 | .error e=>RR W g (.error e)∧∃ m,NumAt W gn m
def TqPost (w:World) (g gn:Nat) (R:Except Int (Tm × List Int × Int)) (e:Ending) (w':World):Prop:=
 ∃ p t,e=.returned (tmV p t)∧TmS w' (fun b=>w.heap.size≤b) p t∧Chg (fun k=>k=g∨k=gn) w w'∧TqSt w' g gn t R
theorem TqSt.chg {W W':World} {g gn:Nat} {t:Tm} {R:Except Int (Tm × List Int × Int)} {S:Nat→Prop} (h:TqSt W g gn t R) (hS:∀ k,S k→g<k) (hn:¬ S gn) (hc:Chg S W W'):TqSt W' g gn t R:=by
 cases R with
 | error e=>exact ⟨h.1.chg hS hc,by obtain ⟨m,hm⟩:=h.2;exact ⟨m,hm.chgS hn hc⟩⟩
 | ok y=>exact ⟨h.1,h.2.1.chg hS hc,h.2.2.chgS hn hc⟩
theorem TqBx.reader {w W W':World} {g gn gO:Nat} {k:Int} {o:TOwn} {p:Pl} {V:Value} (h:TqBx w W g gn gO k o p V) (hc:Chg (fun k=>k=g∨k=gn) W W'):TqBx w W' g gn gO k o p V:=by
 have h1:=h.far
 have h2:=h.glt
 have h3:=h.nlt
 exact ⟨(hc.block _ (blk_lt h.out) (by omega)).trans h.out,(hc.block _ (blk_lt h.res) (by omega)).trans h.res,chg_trans h.chg hc,h.far,h.glt,h.nlt,h.ne,h.lvs.same fun k hk hz=>hc.block k hz (by omega),h.lss.same fun k hk hz=>hc.block k hz (by omega),h.fit⟩
theorem TqBx.below {w W W':World} {g gn gO:Nat} {k:Int} {o:TOwn} {p:Pl} {V:Value} (h:TqBx w W g gn gO k o p V) (hb:Below W.heap.size W W'):TqBx w W' g gn gO k o p V:=h.reader (Chg.of_below hb)
theorem tqBx_new {w w2:World} {g gn:Nat} {k:Int} (hg:g<w.heap.size) (hn:gn<w.heap.size) (hne:g<gn) (hc:Chg (fun k=>k=g) (w.alloc (tzO 0)) w2):TqBx w (w2.alloc (tzO k)) g gn w2.heap.size k o0 pl0 (.slice none 0 0):=by
 have hz:=hc.size
 have hs:(w.alloc (tzO 0)).heap.size=w.heap.size+1:=by simp
 refine ⟨blk_new _ _,blk_alloc ((hc.block _ (by omega) (by omega)).trans (blk_new _ _)) _,chg_one (chg_trans (Chg.of_below (below_alloc (Below.refl _ _) _)) (chg_trans hc (Chg.of_below (below_alloc (Below.refl _ _) _)))),by omega,hg,hn,hne,LvS.leaf0 _ _ _ _,LvS.leaf0 _ _ _ _,⟨by decide,by decide,by decide⟩⟩
theorem TqBx.upd {w W W':World} {g gn gO:Nat} {k:Int} {o o':TOwn} {p p':Pl} {V V':Value} (h:TqBx w W g gn gO k o p V) (hc:Chg (fun k=>k=gO) W W') (ho:W'.heap[gO]?=some (tmbO k o' p' V'))
  (hl:LvS W (fun b=>gO<b) p'.A p'.c o'.lv) (hs:LvS W (fun b=>gO<b) p'.B p'.d (.mk 0 0 o'.ls)) (hf:Fit o'.n o'.s o'.ls):TqBx w W' g gn gO k o' p' V':=by
 have h1:=h.far
 have h2:=h.glt
 have h3:=h.nlt
 refine ⟨ho,(hc.block _ (blk_lt h.res) (by omega)).trans h.res,⟨hc.os.trans h.chg.os,hc.tape.trans h.chg.tape,hc.output.trans h.chg.output,Nat.le_trans h.chg.size hc.size,fun i hi hs=>?_⟩,h1,h2,h3,h.ne,hl.same fun k hk hz=>hc.block k hz (by omega),hs.same fun k hk hz=>hc.block k hz (by omega),hf⟩
 rw [hc.block i (Nat.lt_of_lt_of_le hi h.chg.size) (by omega),h.chg.block i hi hs]
theorem tqPost_fin {w W:World} {g gn gO:Nat} {k:Int} {o:TOwn} {p:Pl} {K:Option Addr} {L e:Nat} {l:List Tm} {R:Except Int (Tm × List Int × Int)} (hb:TqBx w W g gn gO k o p (.slice K L e)) (hL:L=l.length) (hl:RowG eTm W (gO+1) (.slice K L e) l) (hR:TqSt W g gn (.mk k o.n o.s o.lv o.ls l) R) (W':World) (hch:Chg (fun k=>k=w.heap.size) W W') :
  TqPost w g gn R (.returned (.agg #[.int .i64 k,.int .i64 o.n,.string o.s,.int .i64 o.lv.kind,.int .i64 o.lv.num,.slice p.A o.lv.kids.length p.c,.slice p.B o.ls.length p.d,.slice K L e])) W':=by
 subst hL
 have hfar:=hb.far
 have hglt:=hb.glt
 have hnlt:=hb.nlt
 have hz:=hb.chg.size
 obtain ⟨K2,e2,he,ht⟩:=rowTm_term hl
 injection he with e1 _ e3
 subst e1;subst e3
 have ht2:=ht k o p (hb.lvs.mono fun b hb _=>hb) (hb.lss.mono fun b hb _=>hb) hb.fit
 refine ⟨⟨p.A,p.c,p.B,p.d,K,e⟩,_,rfl,(ht2.same fun b hb' hz=>hch.block b hz (by omega)).mono fun b hb' _=>by omega,?_,?_⟩
 ·refine ⟨hch.os.trans hb.chg.os,hch.tape.trans hb.chg.tape,hch.output.trans hb.chg.output,Nat.le_trans hb.chg.size hch.size,fun i hi hs=>?_⟩
  rw [hch.block i (Nat.lt_of_lt_of_le hi hb.chg.size) (by omega),hb.chg.block i hi hs]
 ·exact hR.chg (S:=fun k=>k=w.heap.size) (fun k e=>by omega) (by omega) hch
theorem tqPost_err {w W:World} {g gn gO:Nat} {k e m:Int} {o:TOwn} {p:Pl} {R:Except Int (Tm × List Int × Int)} (hb:TqBx w W g gn gO k o p (.slice none 0 0)) (hE:R=.error e) (hR:RR W g (.error e)) (hm:NumAt W gn m) (W':World) (hch:Chg (fun k=>k=w.heap.size) W W') :
  TqPost w g gn R (.returned (.agg #[.int .i64 k,.int .i64 o.n,.string o.s,.int .i64 o.lv.kind,.int .i64 o.lv.num,.slice p.A o.lv.kids.length p.c,.slice p.B o.ls.length p.d,.slice none 0 0])) W':=by
 subst hE
 exact tqPost_fin (R:=.error e) (l:=[]) hb rfl (RowG.nil _ _ _) ⟨hR,m,hm⟩ W' hch
def QwnSt (W:World) (g gn:Nat) (N:Int) (o:TOwn) (R:Except Int (TOwn × List Int)):Prop:=RR W g (restR R)∧NumAt W gn N∧valIs o R
theorem arZ_kids {k:Int} (h1:1≤k) (h7:k≤7):arZ k=(tmKids k:Int):=by
 rcases (show k=1∨k=2∨k=3∨k=4∨k=5∨k=6∨k=7 by omega) with h | h | h | h | h | h | h <;> subst h <;> rfl
theorem qwn_num {w w6:World} {g gn gO:Nat} {N nn:Int} {r:List Int} (hB:Bytes r) (hb:TqBx w w6 g gn gO 1 o0 pl0 (.slice none 0 0)) (hnn:nn=okNum (numR r)) (hst:RR w6 g (restR (numR r))) (hN:NumAt w6 gn N) :
  ∃ o p,Aside0 (TqBx w (w6.setCell ⟨gO,1,none⟩ (.int .i64 nn)) g gn gO 1 o p (.slice none 0 0))∧Aside0 (QwnSt (w6.setCell ⟨gO,1,none⟩ (.int .i64 nn)) g gn N o (tmOwn 1 r))∧Aside0 (0<tmKids 1→o=o0∧p=pl0):=by
 have hf:=okNum_fit hB
 have h1:=hb.far
 have h2:=hb.glt
 have h3:=hb.nlt
 refine ⟨⟨nn,⟨#[]⟩,.mk 0 0 [],[]⟩,pl0,⟨hb.upd (chg_set _ _ _ _) (blk_put hb.out 1 _ rfl) (LvS.leaf0 _ _ _ _) (LvS.leaf0 _ _ _ _) (fit_n (by rw [hnn];exact hf))⟩,⟨?_⟩,⟨fun h=>absurd h (by decide)⟩⟩
 have hst':=hst.chg (S:=fun k=>k=gO) (fun k e=>by omega) (chg_set w6 gO 1 (.int .i64 nn))
 refine ⟨?_,hN.chgS (S:=fun k=>k=gO) (by omega) (chg_set _ _ _ _),?_⟩
 ·unfold tmOwn
  rw [if_pos rfl]
  cases hn:numR r with
  | error e=>rw [hn] at hst';exact hst'
  | ok x=>rw [hn] at hst';exact hst'
 ·unfold tmOwn
  rw [if_pos rfl]
  cases hn:numR r with
  | error e=>trivial
  | ok x=>rw [hn] at hnn;show TOwn.mk nn _ _ _=TOwn.mk x.1 _ _ _;rw [hnn];rfl
theorem qwn_lv {w w6:World} {g gn gO gk B c:Nat} {N:Int} {r:List Int} {A:Option Addr} {l:Lv} (hb:TqBx w w6 g gn gO 2 o0 pl0 (.slice none 0 0)) (hl:LvS w6 (fun b=>B≤b) A c l) (hB:gO<B) (hst:RvSt w6 g gk l (lvR 32 r 0)) (hN:NumAt w6 gn N) :
  ∃ o p,Aside0 (TqBx w (((w6.setCell ⟨gO,3,none⟩ (.int .i64 l.kind)).setCell ⟨gO,4,none⟩ (.int .i64 l.num)).setCell ⟨gO,5,none⟩ (.slice A l.kids.length c)) g gn gO 2 o p (.slice none 0 0))∧Aside0 (QwnSt (((w6.setCell ⟨gO,3,none⟩ (.int .i64 l.kind)).setCell ⟨gO,4,none⟩ (.int .i64 l.num)).setCell ⟨gO,5,none⟩ (.slice A l.kids.length c)) g gn N o (tmOwn 2 r))∧Aside0 (0<tmKids 2→o=o0∧p=pl0):=by
 have h1:=hb.far
 have h2:=hb.glt
 have h3:=hb.nlt
 have hc:=chg_set3' w6 gO 3 4 5 (.int .i64 l.kind) (.int .i64 l.num) (.slice A l.kids.length c)
 refine ⟨⟨0,⟨#[]⟩,l,[]⟩,⟨A,c,none,0,none,0⟩,⟨hb.upd hc (blk_put (blk_put (blk_put hb.out 3 _ rfl) 4 _ rfl) 5 _ rfl) (hl.mono fun b hb _=>by omega) (LvS.leaf0 _ _ _ _) (fit_n (n:=0) (by decide))⟩,⟨?_⟩,⟨fun h=>absurd h (by decide)⟩⟩
 refine ⟨?_,hN.chgS (S:=fun k=>k=gO) (by omega) hc,?_⟩
 ·unfold tmOwn
  rw [if_neg (by decide),if_pos rfl]
  unfold lev1
  cases hn:lvR 32 r 0 with
  | error e=>rw [hn] at hst;exact hst.1.chg (S:=fun k=>k=gO) (fun k e=>by omega) hc
  | ok x=>rw [hn] at hst;exact hst.2.1.chg (S:=fun k=>k=gO) (fun k e=>by omega) hc
 ·unfold tmOwn
  rw [if_neg (by decide),if_pos rfl]
  unfold lev1
  cases hn:lvR 32 r 0 with
  | error e=>trivial
  | ok x=>rw [hn] at hst;show TOwn.mk _ _ l _=TOwn.mk _ _ x.1 _;rw [hst.1]
theorem TqBx.named {w w6:World} {g gn gO:Nat} {s:ByteArray} (hb:TqBx w w6 g gn gO 7 o0 pl0 (.slice none 0 0)) (hs:s.size≤140737488355328):TqBx w (w6.setCell ⟨gO,2,none⟩ (.string s)) g gn gO 7 ⟨0,s,.mk 0 0 [],[]⟩ pl0 (.slice none 0 0):=
 hb.upd (chg_set _ _ _ _) (blk_put hb.out 2 _ rfl) (LvS.leaf0 _ _ _ _) (LvS.leaf0 _ _ _ _) (fit_s (ls:=[]) hs (by decide))
theorem qwn_none {w w6:World} {g gn gO:Nat} {N k:Int} {r:List Int} (h1:k≠1) (h2:k≠2) (h7:k≠7) (hb:TqBx w w6 g gn gO k o0 pl0 (.slice none 0 0)) (hst:RR w6 g (.ok r)) (hN:NumAt w6 gn N) :
  ∃ o p,Aside0 (TqBx w w6 g gn gO k o p (.slice none 0 0))∧Aside0 (QwnSt w6 g gn N o (tmOwn k r))∧Aside0 (0<tmKids k→o=o0∧p=pl0):=by
 refine ⟨o0,pl0,⟨hb⟩,⟨?_⟩,⟨fun _=>⟨rfl,rfl⟩⟩⟩
 unfold tmOwn
 rw [if_neg h1,if_neg h2,if_neg h7]
 exact ⟨hst,hN,rfl⟩
def TqLt (W:World) (g gn:Nat) (l:List Tm):Except Int (List Tm × List Int × Int)→Prop
 | .ok (l',r,m)=>l=l'∧RR W g (.ok r)∧NumAt W gn m
 | .error e=>RR W g (.error e)∧∃ m,NumAt W gn m
theorem TqLt.rr {W:World} {g gn:Nat} {l:List Tm} {R:Except Int (List Tm × List Int × Int)} (h:TqLt W g gn l R):RR W g (stP R):=by
 cases R with
 | error e=>exact h.1
 | ok x=>exact h.2.1
theorem TqLt.chg {W W':World} {g gn:Nat} {l:List Tm} {R:Except Int (List Tm × List Int × Int)} {S:Nat→Prop} (h:TqLt W g gn l R) (hS:∀ k,S k→g<k) (hn:¬ S gn) (hc:Chg S W W'):TqLt W' g gn l R:=by
 cases R with
 | error e=>exact ⟨h.1.chg hS hc,by obtain ⟨m,hm⟩:=h.2;exact ⟨m,hm.chgS hn hc⟩⟩
 | ok y=>exact ⟨h.1,h.2.1.chg hS hc,h.2.2.chgS hn hc⟩
structure TqLoop (w W:World) (g gn gO:Nat) (k:Int) (o:TOwn) (p:Pl) (V:Value) (l:List Tm) (R:Except Int (List Tm × List Int × Int)) (j:Nat):Prop where
 bx:TqBx w W g gn gO k o p V
 kids:RowG eTm W (gO+1) V l
 st:TqLt W g gn l R
 len:l.length≤j
theorem tqLoop_start {w W:World} {g gn gO f:Nat} {k N:Int} {o:TOwn} {p:Pl} {R0:Except Int (TOwn × List Int)} (hb:TqBx w W g gn gO k o p (.slice none 0 0)) (h:QwnSt W g gn N o R0):TqLoop w W g gn gO k o p (.slice none 0 0) [] (tmPre f R0 N 0) 0:=by
 refine ⟨hb,RowG.nil _ _ _,?_,Nat.le_refl _⟩
 cases R0 with
 | error er=>exact ⟨h.1,N,h.2.1⟩
 | ok x=>exact ⟨rfl,h.1,h.2.1⟩
theorem tq_next {w5:World} {g gn f j:Nat} {m m1:Int} {R0:Except Int (TOwn × List Int)} {l:List Tm} {t:Tm} {r:List Int} (h:tmPre f R0 m j=.ok (l,r,m1)) (hp:TqSt w5 g gn t (nextTm f (.ok r) m1)):TqLt w5 g gn (l ++ [t]) (tmPre f R0 m (j+1)):=by
 rw [tmPre_ok h]
 change TqSt w5 g gn t (tmR f r m1) at hp
 cases hl:tmR f r m1 with
 | error e=>rw [hl] at hp;exact hp
 | ok x=>rw [hl] at hp;exact ⟨by rw [hp.1],hp.2⟩
theorem tqLoop_end {w W W':World} {g gn gO f:Nat} {k m:Int} {o:TOwn} {p:Pl} {K:Option Addr} {L e:Nat} {l:List Tm} {xs r:List Int} {j:Nat} (hK:kindR 7 xs=.ok (k,r)) (hm:m<400) (hj:j≤tmKids k)
  (h:TqLoop w W g gn gO k o p (.slice K L e) l (tmPre f (tmOwn k r) (m+1) j) j) (hL:L=l.length) (ho:valIs o (tmOwn k r)) (hfin:j=tmKids k∨∃ e,tmPre f (tmOwn k r) (m+1) j=.error e) (hch:Chg (fun k=>k=w.heap.size) W W') :
  TqPost w g gn (tmR (f+1) xs m) (.returned (.agg #[.int .i64 k,.int .i64 o.n,.string o.s,.int .i64 o.lv.kind,.int .i64 o.lv.num,.slice p.A o.lv.kids.length p.c,.slice p.B o.ls.length p.d,.slice K L e])) W':=by
 refine tqPost_fin h.bx hL h.kids ?_ W' hch
 have hs:=h.st
 cases hp:tmPre f (tmOwn k r) (m+1) j with
 | error e=>rw [tmR_stop hK hm hj hp];rw [hp] at hs;exact hs
 | ok x =>
  obtain rfl:j=tmKids k:=by
   rcases hfin with h | ⟨e,h⟩
   ·exact h
   ·rw [hp] at h;cases h
  obtain ⟨l',r1,m1⟩:=x
  rw [tmR_pre hK hm,hp]
  rw [hp] at hs
  cases hr:tmOwn k r with
  | error e=>rw [hr] at hp;cases hp
  | ok y =>
   rw [hr] at ho
   obtain rfl:o=y.1:=ho
   exact ⟨by rw [hs.1],hs.2⟩
structure QIn (w W:World) (g gn gO:Nat) (k:Int) (o:TOwn) (p:Pl) (V:Value) (xs:List Tm) (q:Pl) (x:Tm):Prop where
 bx:TqBx w W g gn gO k o p V
 kids:RowG eTm W (gO+1) V xs
 kid:TmS W (fun b=>gO+1≤b∧V.ownBlock≠some b) q x
 size:gO+1≤W.heap.size
theorem qin_in {w wr W3 w5:World} {g gn gO:Nat} {k:Int} {o:TOwn} {p:Pl} {V:Value} {xs:List Tm} {q:Pl} {x:Tm} (hb:TqBx w wr g gn gO k o p V) (hk:RowG eTm wr (gO+1) V xs) (h3:Below wr.heap.size wr W3) (h5:Chg (fun k=>k=g∨k=gn) W3 w5) (hl:TmS w5 (fun b=>W3.heap.size≤b) q x):QIn w w5 g gn gO k o p V xs q x:=by
 have hbb:Chg (fun k=>k=g∨k=gn) wr w5:=chg_trans (Chg.of_below h3) h5
 have hlt:=blk_lt hb.out
 have hfar:=hb.far
 have hglt:=hb.glt
 have hnlt:=hb.nlt
 refine ⟨hb.reader hbb,hk.keep hbb (fun k e=>by omega),hl.mono fun b hb' _=>⟨by have:=h3.size;omega,fun e=>?_⟩,by have:=hbb.size;omega⟩
 obtain ⟨cells,q,hown,_⟩:=hk
 have:=own_lt hown b e
 have:=h3.size
 omega
theorem QIn.drew {w W:World} {g gn gO:Nat} {k:Int} {o:TOwn} {p:Pl} {V:Value} {xs:List Tm} {q:Pl} {x:Tm} (h:QIn w W g gn gO k o p V xs q x):QIn w W.drew g gn gO k o p V xs q x:=
 ⟨h.bx.below (below_drew (Below.refl _ _)),h.kids.later (below_drew (Below.refl _ _)),h.kid.later (below_drew (Below.refl _ _)),h.size⟩
theorem QIn.cell {w W:World} {g gn gO:Nat} {k:Int} {o:TOwn} {p:Pl} {V:Value} {xs:List Tm} {q:Pl} {x:Tm} (h:QIn w W g gn gO k o p V xs q x):W.cell? ⟨gO,7,none⟩=some V:=by
 rw [cell_of_row _ _ _ _ _ _ h.bx.out];rfl
theorem QIn.cell2 {w W:World} {g gn gO:Nat} {k:Int} {o:TOwn} {p:Pl} {V:Value} {xs:List Tm} {q:Pl} {x:Tm} (h:QIn w W g gn gO k o p V xs q x) (ob:Obj):(W.alloc ob).cell? ⟨gO,7,none⟩=some V:=by
 rw [cell_of_row _ _ _ _ _ _ (blk_alloc h.bx.out ob)];rfl
structure QOut (w W5 W:World) (g gn gO:Nat) (k:Int) (o:TOwn) (p:Pl) (V V6:Value) (xs:List Tm):Prop where
 bx:TqBx w W g gn gO k o p V
 kids:RowG eTm W (gO+1) V6 xs
 chg:Chg (fun k=>g<k∧gn<k) W5 W
theorem qin_push {w w5 w6:World} {g gn gO:Nat} {k:Int} {V v6:Value} {xs:List Tm} {q:Pl} {x:Tm} {cs:List Value} {qq:Nat→Pl} (h:QIn w w5 g gn gO k o0 pl0 V xs q x)
  (ho:w5.ownsRow (gO+1) eTm.ty eTm.sz V xs.length cs)
  (hk:∀ (i:Nat) (x:Tm),xs[i]?=some x→(∀ (j:Nat) (v:Value),(eTm.cells (qq i) x)[j]?=some v→cs[i * eTm.sz+j]?=some v)∧eTm.mem w5 (fun b=>gO+1≤b∧V.ownBlock≠some b) (qq i) x)
  (ho1:w6.ownsRow (gO+1) eTm.ty eTm.sz v6 (xs.length+1) (cs ++ eTm.cells q x)) (hg:w5.grownBy w6 V.ownBlock) (hat:v6.ownBlock=V.ownBlock∨∃ b,v6.ownBlock=some b∧w5.heap.size≤b):QOut w w5 w6 g gn gO k o0 pl0 V v6 (xs ++ [x]):=by
 have far:∀ k,k<gO+1→some k≠V.ownBlock:=fun k hk e=>by have:=own_base ho k e.symm;omega
 have hfar:=h.bx.far
 have hglt:=h.bx.glt
 have hnlt:=h.bx.nlt
 have hch:Chg (fun k=>gO+1≤k) w5 w6:=⟨hg.os,hg.tape,hg.output,hg.size,fun i hi hn=>hg.block i hi (far i (by omega))⟩
 refine ⟨⟨(hch.block _ (blk_lt h.bx.out) (by omega)).trans h.bx.out,(hch.block _ (blk_lt h.bx.res) (by omega)).trans h.bx.res,?_,hfar,hglt,hnlt,h.bx.ne,LvS.leaf0 _ _ _ _,LvS.leaf0 _ _ _ _,h.bx.fit⟩,RowG.push ho hk h.kid ho1 hg hat,hch.mono fun i hi=>by omega⟩
 refine ⟨hch.os.trans h.bx.chg.os,hch.tape.trans h.bx.chg.tape,hch.output.trans h.bx.chg.output,Nat.le_trans h.bx.chg.size hch.size,fun i hi hs=>?_⟩
 rw [hch.block i (Nat.lt_of_lt_of_le hi h.bx.chg.size) (by omega),h.bx.chg.block i hi hs]
theorem qout_fin {w w5 w6:World} {g gn gO j:Nat} {k:Int} {V V6:Value} {xs:List Tm} {R:Except Int (List Tm × List Int × Int)} (h:QOut w w5 w6 g gn gO k o0 pl0 V V6 xs) (hst:TqLt w5 g gn xs R) (hl:xs.length≤j) :
  ∃ v5 l5,Aside0 (TqLoop w (w6.setCell ⟨gO,7,none⟩ V6) g gn gO k o0 pl0 v5 l5 R j):=by
 have hfar:=h.bx.far
 have hglt:=h.bx.glt
 have hnlt:=h.bx.nlt
 exact ⟨V6,xs,⟨h.bx.upd (chg_set _ _ _ _) (blk_put h.bx.out 7 _ rfl) (LvS.leaf0 _ _ _ _) (LvS.leaf0 _ _ _ _) h.bx.fit,h.kids.keep (chg_set _ _ _ _) (fun k e=>by omega),(hst.chg (S:=fun k=>g<k∧gn<k) (fun _ h=>h.1) (by omega) h.chg).chg (S:=fun k=>k=gO) (fun k e=>by omega) (by omega) (chg_set _ _ _ _),hl⟩⟩
abbrev qlO (s:ByteArray) (V:Value):Obj:=.cells #[.int .i64 7,.int .i64 0,.string s,.int .i64 0,.int .i64 0,.slice none 0 0,V,.slice none 0 0] 27 (0,0)
structure QlB (w W:World) (g gn gO:Nat) (s:ByteArray) (V:Value) (N:Int):Prop where
 out:W.heap[gO]?=some (qlO s V)
 res:W.heap[w.heap.size]?=some (tzO 0)
 chg:Chg (fun k=>k=g∨k=gn) w W
 far:w.heap.size<gO
 glt:g<w.heap.size
 nlt:gn<w.heap.size
 ne:g<gn
 num:NumAt W gn N
structure QlSt (w W:World) (g gn gO:Nat) (s:ByteArray) (V:Value) (l:List Lv) (N:Int) (st:Except Int (List Int)):Prop where
 bx:QlB w W g gn gO s V N
 kids:KidsAt W (gO+1) V l
 rr:RR W g st
structure QlIn (w W:World) (g gn gO:Nat) (s:ByteArray) (V:Value) (l:List Lv) (N:Int) (A:Option Addr) (c:Nat) (x:Lv):Prop where
 bx:QlB w W g gn gO s V N
 kids:KidsAt W (gO+1) V l
 kid:LvS W (fun b=>gO+1≤b∧V.ownBlock≠some b) A c x
 size:gO+1≤W.heap.size
structure QlOut (w W5 W:World) (g gn gO:Nat) (s:ByteArray) (V V6:Value) (l:List Lv) (N:Int):Prop where
 bx:QlB w W g gn gO s V N
 kids:KidsAt W (gO+1) V6 l
 chg:Chg (fun k=>g<k∧gn<k) W5 W
theorem QlB.reader {w W W':World} {g gn gO:Nat} {s:ByteArray} {V:Value} {N:Int} (h:QlB w W g gn gO s V N) (hc:Chg (fun k=>k=g) W W'):QlB w W' g gn gO s V N:=by
 have h1:=h.far
 have h2:=h.glt
 have h3:=h.nlt
 have h4:=h.ne
 exact ⟨(hc.block _ (blk_lt h.out) (by omega)).trans h.out,(hc.block _ (blk_lt h.res) (by omega)).trans h.res,chg_trans h.chg (chg_one hc),h1,h2,h3,h4,h.num.chgS (S:=fun k=>k=g) (by omega) hc⟩
theorem QlB.below {w W W':World} {g gn gO:Nat} {s:ByteArray} {V:Value} {N:Int} (h:QlB w W g gn gO s V N) (hb:Below W.heap.size W W'):QlB w W' g gn gO s V N:=h.reader (Chg.of_below hb)
theorem QlIn.drew {w W:World} {g gn gO:Nat} {s:ByteArray} {V:Value} {l:List Lv} {N:Int} {A:Option Addr} {c:Nat} {x:Lv} (h:QlIn w W g gn gO s V l N A c x):QlIn w W.drew g gn gO s V l N A c x:=
 ⟨h.bx.below (below_drew (Below.refl _ _)),h.kids.later (below_drew (Below.refl _ _)),h.kid.later (below_drew (Below.refl _ _)),h.size⟩
theorem QlB.cell {w W:World} {g gn gO:Nat} {s:ByteArray} {V:Value} {N:Int} (h:QlB w W g gn gO s V N):W.cell? ⟨gO,6,none⟩=some V:=by
 rw [cell_of_row _ _ _ _ _ _ h.out];rfl
theorem QlB.cell2 {w W:World} {g gn gO:Nat} {s:ByteArray} {V:Value} {N:Int} (h:QlB w W g gn gO s V N) (ob:Obj):(W.alloc ob).cell? ⟨gO,6,none⟩=some V:=by
 rw [cell_of_row _ _ _ _ _ _ (blk_alloc h.out ob)];rfl
theorem chg_drop {wr W3 w5:World} {g gk:Nat} (h3:Below wr.heap.size wr W3) (hgk:wr.heap.size≤gk) (h5:Chg (fun k=>k=g∨k=gk) W3 w5):Chg (fun k=>k=g) wr w5:=by
 refine ⟨h5.os.trans h3.os,h5.tape.trans h3.tape,h5.output.trans h3.output,Nat.le_trans h3.size h5.size,fun i hi hs=>?_⟩
 rw [h5.block i (Nat.lt_of_lt_of_le hi h3.size) (by omega),h3.block i hi]
theorem qlin_in {w wr W3 w5:World} {g gn gO gk:Nat} {s:ByteArray} {V:Value} {l:List Lv} {N:Int} {st:Except Int (List Int)} {A:Option Addr} {c:Nat} {x:Lv} (h:QlSt w wr g gn gO s V l N st) (h3:Below wr.heap.size wr W3) (hgk:wr.heap.size≤gk) (h5:Chg (fun k=>k=g∨k=gk) W3 w5) (hl:LvS w5 (fun b=>W3.heap.size≤b) A c x):QlIn w w5 g gn gO s V l N A c x:=by
 have hbb:=chg_drop h3 hgk h5
 have hlt:=blk_lt h.bx.out
 have hfar:=h.bx.far
 have hglt:=h.bx.glt
 refine ⟨h.bx.reader hbb,h.kids.far hbb (fun k e=>by omega),hl.mono fun b hb' _=>⟨by have:=h3.size;omega,fun e=>?_⟩,by have:=hbb.size;omega⟩
 obtain ⟨cells,fA,fc,hown,_⟩:=h.kids
 have:=own_lt hown b e
 have:=h3.size
 omega
theorem qlin_push {w w5 w6:World} {g gn gO:Nat} {s:ByteArray} {V:Value} {l:List Lv} {N:Int} {v6:Value} {A:Option Addr} {c:Nat} {x:Lv} {cells:List Value} {fA:Nat→Option Addr} {fc:Nat→Nat} (h:QlIn w w5 g gn gO s V l N A c x)
  (ho:w5.ownsRow (gO+1) 24 3 V l.length cells)
  (hk:∀ (i:Nat) (x:Lv),l[i]?=some x→cells[i * 3]?=some (.int .i64 x.kind)∧cells[i * 3+1]?=some (.int .i64 x.num)∧cells[i * 3+2]?=some (.slice (fA i) x.kids.length (fc i))∧LvS w5 (fun b=>gO+1≤b∧V.ownBlock≠some b) (fA i) (fc i) x)
  (ho1:w6.ownsRow (gO+1) 24 3 v6 (l.length+1) (cells ++ [.int .i64 x.kind,.int .i64 x.num,.slice A x.kids.length c])) (hg:w5.grownBy w6 V.ownBlock) (hat:v6.ownBlock=V.ownBlock∨∃ b,v6.ownBlock=some b∧w5.heap.size≤b):QlOut w w5 w6 g gn gO s V v6 (l ++ [x]) N:=by
 have far:∀ k,k<gO+1→some k≠V.ownBlock:=fun k hk e=>by have:=own_base ho k e.symm;omega
 have hfar:=h.bx.far
 have hglt:=h.bx.glt
 have hnlt:=h.bx.nlt
 have hch:Chg (fun k=>gO+1≤k) w5 w6:=⟨hg.os,hg.tape,hg.output,hg.size,fun i hi hn=>hg.block i hi (far i (by omega))⟩
 refine ⟨⟨(hch.block _ (blk_lt h.bx.out) (by omega)).trans h.bx.out,(hch.block _ (blk_lt h.bx.res) (by omega)).trans h.bx.res,?_,hfar,hglt,hnlt,h.bx.ne,h.bx.num.chgS (S:=fun k=>gO+1≤k) (by omega) hch⟩,KidsAt.push ho hk h.kid ho1 hg hat,hch.mono fun i hi=>by omega⟩
 refine ⟨hch.os.trans h.bx.chg.os,hch.tape.trans h.bx.chg.tape,hch.output.trans h.bx.chg.output,Nat.le_trans h.bx.chg.size hch.size,fun i hi hs=>?_⟩
 rw [hch.block i (Nat.lt_of_lt_of_le hi h.bx.chg.size) (by omega),h.bx.chg.block i hi hs]
theorem qlout_fin {w w5 w6:World} {g gn gO:Nat} {s:ByteArray} {V V6:Value} {l:List Lv} {N:Int} {st:Except Int (List Int)} (h:QlOut w w5 w6 g gn gO s V V6 l N) (hst:RR w5 g st):QlSt w (w6.setCell ⟨gO,6,none⟩ V6) g gn gO s V6 l N st:=by
 have hfar:=h.bx.far
 have hglt:=h.bx.glt
 have hnlt:=h.bx.nlt
 have hc:=chg_set w6 gO 6 V6
 refine ⟨⟨blk_put h.bx.out 6 _ rfl,(hc.block _ (blk_lt h.bx.res) (by omega)).trans h.bx.res,⟨hc.os.trans h.bx.chg.os,hc.tape.trans h.bx.chg.tape,hc.output.trans h.bx.chg.output,Nat.le_trans h.bx.chg.size hc.size,fun i hi hs=>?_⟩,hfar,hglt,hnlt,h.bx.ne,h.bx.num.chgS (S:=fun k=>k=gO) (by omega) hc⟩,h.kids.other hc (by omega),(hst.chg (S:=fun k=>g<k∧gn<k) (fun _ h=>h.1) h.chg).chg (S:=fun k=>k=gO) (fun k e=>by omega) hc⟩
 rw [hc.block i (Nat.lt_of_lt_of_le hi h.bx.chg.size) (by omega),h.bx.chg.block i hi hs]
theorem qlSt_start {w W:World} {g gn gO:Nat} {s:ByteArray} {N:Int} {st:Except Int (List Int)} (h:TqBx w W g gn gO 7 ⟨0,s,.mk 0 0 [],[]⟩ pl0 (.slice none 0 0)) (hn:NumAt W gn N) (hst:RR W g st):QlSt w W g gn gO s (.slice none 0 0) [] N st:=
 ⟨⟨h.out,h.res,h.chg,h.far,h.glt,h.nlt,h.ne,hn⟩,KidsAt.nil _ _,hst⟩
theorem QlSt.box {w W:World} {g gn gO:Nat} {s:ByteArray} {V:Value} {l:List Lv} {N:Int} {st:Except Int (List Int)} (h:QlSt w W g gn gO s V l N st) (hs:s.size≤140737488355328) (hl:l.length≤6):∃ B d,V=.slice B l.length d∧TqBx w W g gn gO 7 ⟨0,s,.mk 0 0 [],l⟩ ⟨none,0,B,d,none,0⟩ (.slice none 0 0):=by
 obtain ⟨B,d,rfl,hlv⟩:=h.kids.level
 exact ⟨B,d,rfl,h.bx.out,h.bx.res,h.bx.chg,h.bx.far,h.bx.glt,h.bx.nlt,h.bx.ne,LvS.leaf0 _ _ _ _,(hlv 0 0).mono fun b hb _=>by omega,fit_s hs hl⟩
def manyO (R1:Except Int (Int × List Int)) (j:Nat):Except Int (List Lv × List Int):=match R1 with
 | .error e=>.error e
 | .ok (_,r1)=>manyR lev1 j r1
theorem manyO_0 (R1:Except Int (Int × List Int)):restR (manyO R1 0)=restR R1∧valIs ([]:List Lv) (manyO R1 0):=by
 cases R1 with
 | error e=>exact ⟨rfl,trivial⟩
 | ok x=>exact ⟨rfl,rfl⟩
theorem manyO_ok {R1:Except Int (Int × List Int)} {j:Nat} {l:List Lv} {r:List Int} (h:manyO R1 j=.ok (l,r)):manyO R1 (j+1)=match lev1 r with
  | .error e=>.error e
  | .ok (t,r')=>.ok (l ++ [t],r'):=by
 cases R1 with
 | error e=>cases h
 | ok x =>
  obtain ⟨n,r1⟩:=x
  show manyR lev1 (j+1) r1=_
  change manyR lev1 j r1=_ at h
  rw [many_snoc,h]
  simp only []
  cases lev1 r <;> rfl
theorem manyO_stop {R1:Except Int (Int × List Int)} {j i:Nat} {e:Int} (h:manyO R1 j=.error e) (hi:j≤i):manyO R1 i=.error e:=by
 cases R1 with
 | error e'=>exact h
 | ok x =>
  obtain ⟨n,r1⟩:=x
  have:=many_stop (show manyR lev1 j r1=.error e from h) (i - j)
  rwa [show j+(i - j)=i by omega] at this
theorem own7 {r:List Int} {s:ByteArray} (hs:valIs s (nameR r)) {R1:Except Int (Int × List Int)} (hR:R1=nextR (restR (nameR r)) (rNumR 6 18)):tmOwn 7 r=match manyO R1 (okNum R1).toNat with
  | .error e=>.error e
  | .ok (ls,r1)=>.ok (⟨0,s,.mk 0 0 [],ls⟩,r1):=by
 unfold tmOwn
 rw [if_neg (by decide),if_neg (by decide),if_pos rfl]
 subst hR
 cases hn:nameR r with
 | error e=>rfl
 | ok x =>
  obtain ⟨s',r0⟩:=x
  rw [hn] at hs
  obtain rfl:s=s':=hs
  simp only [restR,nextR,listR_num]
  cases hm:rNumR 6 18 r0 with
  | error e=>rfl
  | ok y =>
   obtain ⟨n,r1⟩:=y
   simp only [manyO,okNum]
   cases manyR lev1 n.toNat r1 with
   | error e=>rfl
   | ok z=>rfl
theorem ql_next {w5:World} {g gk j:Nat} {R1:Except Int (Int × List Int)} {l:List Lv} {l5:Lv} {r:List Int} (h:manyO R1 j=.ok (l,r)) (hp:RvSt w5 g gk l5 (nextLv 32 (.ok r) 0)):RR w5 g (restR (manyO R1 (j+1)))∧valIs (l ++ [l5]) (manyO R1 (j+1)):=by
 rw [manyO_ok h]
 change RvSt w5 g gk l5 (lvR 32 r 0) at hp
 unfold lev1
 cases hl:lvR 32 r 0 with
 | error e=>rw [hl] at hp;exact ⟨hp.1,trivial⟩
 | ok x=>rw [hl] at hp;exact ⟨hp.2.1,by show l ++ [l5]=l ++ [x.1];rw [hp.1]⟩
end Go.Proofs.Ytcgkeolgflphiaa

namespace Go.Proofs.Ytcgkeolgflphiaa
open Go.RowKit Go.Proofs.YtcgkeolgflphiaaW.PrintWords Go.RegionInvYtcgkeolgflphiaa

set_option maxRecDepth 100000 in
set_option maxHeartbeats 8000000 in
theorem rterm_step (f:Nat) (IH0:∀ f',f'<f→∀ (g gn:Nat) (s:Except Int (List Int)) (m d:Int) (w:World),1≤d→(f':Int)+d=65→(∀ xs,s=.ok xs→0≤m∧m≤400)→RR w g s→NumAt w gn m→g<gn→Calls Try.prog 93 #[.pointer (some ⟨g,0,none⟩),.int .i64 d,.pointer (some ⟨gn,0,none⟩)] w (TqPost w g gn (nextTm f' s m)))
  (g gn:Nat) (s:Except Int (List Int)) (m d:Int) (w:World) (hd0:1≤d) (hd:(f:Int)+d=65) (hm:∀ xs,s=.ok xs→0≤m∧m≤400) (h:RR w g s) (hn:NumAt w gn m) (hne:g<gn) :
  Calls Try.prog 93 #[.pointer (some ⟨g,0,none⟩),.int .i64 d,.pointer (some ⟨gn,0,none⟩)] w (TqPost w g gn (nextTm f s m)):=by
 have HR:=Ak h
 have HN:=Ak hn
 have HGL:=Ak h.lt
 have HNL:=Ak (blk_lt hn)
 have HNE:=Ak hne
 have HM:=Ak hm
 have IH:=Ak IH0
 have hk8:=byteS_u8 h.bytes
 obtain ⟨k,hk⟩:∃ k,k=(byteS s).1:=⟨_,rfl⟩
 rw [← hk] at hk8
 have HK:=Ak hk
 clear h hn hne IH0 hk hm
 go_enter Try.func93,Try.ntmps93
 go_upto_region 2 with (go_at_call 69;go_must (refine (rbyte_any g s _ (HR.out.below (below_alloc (Below.refl _ _) _))).mono ?_;rintro e w2 ⟨rfl,hc,hst⟩;rw [← HK.out];have HBX:=Ak (tqBx_new (k:=k) HGL.out HNL.out HNE.out hc);have HN2:=Ak (((HN.out.alloc _).chgS (S:=fun k=>k=g) (by have:=HNE.out;omega) hc).alloc (tzO k));have HST:=Ak (hst.below (below_alloc (Below.refl _ _) (tzO k)));clear hc hst))
 obtain ⟨gO,hgO⟩:∃ gO,gO=w2.heap.size:=⟨_,rfl⟩
 rw [← hgO] at HBX ⊢
 obtain ⟨W3,hW3⟩:∃ W3,W3=w2.alloc (tzO k):=⟨_,rfl⟩
 rw [← hW3] at HBX HST HN2 ⊢
 clear hW3 hgO HN
 obtain ⟨s1,hs1⟩:∃ s1,s1=(byteS s).2:=⟨_,rfl⟩
 rw [← hs1] at HST
 have HS1:=Ak hs1
 clear hs1
 go_cut [31] (fun u w5=>u=.bool (badB 7 s1 k)∧w5=W3)
 case first =>
  obtain ⟨A3,n3,c3,e3,hg3,hbx3⟩:=HST.out.box
  obtain ⟨c0,c1,-,-⟩:=row2t hg3
  obtain ⟨⟨d0,d1,d2,d3,d4,d5,d6,d7⟩,-⟩:=row8t HBX.out.out
  clear hg3
  cases s1 with
  | error er =>
   obtain ⟨rfl,hne⟩:=hbx3
   have he:(e3 == 0)=false:=by simp [hne]
   clear hne
   go_wp2
   go_meet
   case rel=>exact ⟨rfl,rfl⟩
  | ok ys =>
   obtain ⟨rfl,-⟩:=hbx3
   by_cases k1:k<1
   ·have hk1:decide (k<1)=true:=decide_eq_true k1
    have HB:=Ak (show badB 7 (.ok ys) k=true from decide_eq_true (.inl k1))
    clear k1
    go_wp2
    go_meet
    case rel=>exact ⟨by rw [HB.out],rfl⟩
   ·by_cases k4:7<k
    ·have hk1:decide (k<1)=false:=decide_eq_false k1
     have hk4:decide (7<k)=true:=decide_eq_true k4
     have HB:=Ak (show badB 7 (.ok ys) k=true from decide_eq_true (.inr k4))
     clear k1 k4
     go_wp2
     go_meet
     case rel=>exact ⟨by rw [HB.out],rfl⟩
    ·have hk1:decide (k<1)=false:=decide_eq_false k1
     have hk4:decide (7<k)=false:=decide_eq_false k4
     have HB:=Ak (show badB 7 (.ok ys) k=false from decide_eq_false (by omega))
     clear k1 k4
     go_wp2
     go_meet
     case rel=>exact ⟨by rw [HB.out],rfl⟩
 case rest =>
  obtain ⟨rfl,rfl⟩:=hcut
  go_upto_if 31 with (fail)
  go_cut [] (fun w5=>Aside0 (TqBx w w5 g gn gO k o0 pl0 (.slice none 0 0))∧Aside0 (RR w5 g (kindS 7 s))∧Aside0 (NumAt w5 gn m))
  case first =>
   cases hb:badB 7 s1 k with
   | true =>
    have HB:=Ak hb
    clear hb
    go_wp2_with (go_at_call 70;go_must (refine (rfail_any g s1 4 _ HST.out (by decide)).mono ?_;rintro e w5 ⟨rfl,hc,hst⟩;have HC5:=Ak hc;have HST5:=Ak hst;clear hc hst))
    go_meet
    case rel=>exact ⟨⟨HBX.out.reader (chg_one HC5.out)⟩,⟨by unfold kindS;rw [← HS1.out,← HK.out,if_pos HB.out];exact HST5.out⟩,⟨HN2.out.chgS (S:=fun k=>k=g) (by have:=HNE.out;omega) HC5.out⟩⟩
   | false =>
    have HB:=Ak hb
    clear hb
    go_wp2
    go_meet
    case rel=>exact ⟨HBX,⟨by unfold kindS;rw [← HS1.out,← HK.out,HB.out,if_neg (by simp)];exact HST.out⟩,HN2⟩
  case rest =>
   clear HBX HST HN2
   obtain ⟨HBX,HST,HN⟩:=hcut
   have hnc:=HN.out.cell
   have hnz:=blk_frozen HN.out 0
   go_upto_region 5 with (fail)
   obtain ⟨mm,hmm⟩:∃ mm,mm=wrap64 (m+1):=⟨_,rfl⟩
   rw [← hmm]
   have HMM:=Ak (show ∀ xs,s=.ok xs→mm=m+1 from fun xs hx=>by have:=HM.out xs hx;rw [hmm];unfold wrap64;omega)
   have HB4:=Ak (HBX.out.reader (chg_two (g:=g) (chg_set wc gn 0 (.int .i64 mm))))
   have HN4:=Ak (HN.out.set mm)
   have HST4:=Ak (HST.out.chgS gn (.int .i64 mm) HNE.out)
   obtain ⟨W4,hW4⟩:∃ W4,W4=wc.setCell ⟨gn,0,none⟩ (.int .i64 mm):=⟨_,rfl⟩
   rw [← hW4] at HB4 HN4 HST4 ⊢
   clear hW4 HBX HST HN hnc hnz hmm
   have hnc:=HN4.out.cell
   go_cut [48] (fun u w5=>u=.bool (decide (64<d∨400<mm))∧w5=W4)
   case first =>
    by_cases d1:64<d
    ·have hd1:decide (64<d)=true:=decide_eq_true d1
     have HB:=Ak (show decide (64<d∨400<mm)=true from decide_eq_true (.inl d1))
     clear d1
     go_wp2
     go_meet
     case rel=>exact ⟨by rw [HB.out],rfl⟩
    ·have hd1:decide (64<d)=false:=decide_eq_false d1
     by_cases d2:400<mm
     ·have hd2:decide (400<mm)=true:=decide_eq_true d2
      have HB:=Ak (show decide (64<d∨400<mm)=true from decide_eq_true (.inr d2))
      clear d1 d2
      go_wp2
      go_meet
      case rel=>exact ⟨by rw [HB.out],rfl⟩
     ·have hd2:decide (400<mm)=false:=decide_eq_false d2
      have HB:=Ak (show decide (64<d∨400<mm)=false from decide_eq_false (by omega))
      clear d1 d2
      go_wp2
      go_meet
      case rel=>exact ⟨by rw [HB.out],rfl⟩
   case rest =>
    obtain ⟨rfl,rfl⟩:=hcut
    obtain ⟨bb,hbb⟩:∃ bb,bb=decide (64<d∨400<mm):=⟨_,rfl⟩
    rw [← hbb]
    have HBB:=Ak hbb
    clear hbb
    go_upto_if 48 with (fail)
    go_cut [] (fun w5=>Aside0 (TqBx w w5 g gn gO k o0 pl0 (.slice none 0 0))∧Aside0 (RR w5 g (deepS bb (kindS 7 s)))∧Aside0 (NumAt w5 gn mm))
    case first =>
     cases bb with
     | true =>
      go_wp2_with (go_at_call 70;go_must (refine (rfail_any g (kindS 7 s) 2 _ HST4.out (by decide)).mono ?_;rintro e w5 ⟨rfl,hc,hst⟩;have HC5:=Ak hc;have HST5:=Ak hst;clear hc hst))
      go_meet
      case rel=>exact ⟨⟨HB4.out.reader (chg_one HC5.out)⟩,⟨HST5.out⟩,⟨HN4.out.chgS (S:=fun k=>k=g) (by have:=HNE.out;omega) HC5.out⟩⟩
     | false =>
      go_wp2
      go_meet
      case rel=>exact ⟨HB4,HST4,HN4⟩
    case rest =>
     clear HB4 HST4 HN4 hnc
     obtain ⟨HBX,HST,HN⟩:=hcut
     obtain ⟨s3,hs3⟩:∃ s3,s3=deepS bb (kindS 7 s):=⟨_,rfl⟩
     rw [← hs3] at HST
     obtain ⟨A5,n5,c5,e5,hg5,hbx5⟩:=HST.out.box
     obtain ⟨c0,c1,-,-⟩:=row2t hg5
     clear hg5
     cases s3 with
     | error er =>
      obtain ⟨rfl,hne⟩:=hbx5
      have he:(e5 != 0)=true:=by simp [hne]
      have HE:=Ak (show nextTm f s m=.error e5 from nextTm_err hd0 hd HMM.out (by rw [← HBB.out];exact hs3.symm))
      clear hne hs3
      obtain ⟨⟨d0,d1,d2,d3,d4,d5,d6,d7⟩,-⟩:=row8t HBX.out.out
      obtain ⟨⟨e0,e1,e2,e3,e4,e5,e6,e7⟩,x0,x1,x2,x3,x4,x5,x6,x7⟩:=row8t HBX.out.res
      go_wp2
      refine bodyPost_ret (results_c rfl _ _ w.heap.size 27 #[.int .i64 k,.int .i64 0,.string ⟨#[]⟩,.int .i64 0,.int .i64 0,.slice none 0 0,.slice none 0 0,.slice none 0 0] (0,0) _ rfl (set8 HBX.out.res) Try.underlying27 rfl (by kernel_rfl)) rfl ?_
      exact tqPost_err HBX.out HE.out HST.out HN.out _ (chg_set8 _ _ _ _ _ _ _ _ _ _)
     | ok r =>
      obtain ⟨rfl,-⟩:=hbx5
      obtain ⟨hbf,hk2⟩:=deepS_ok hs3.symm
      obtain ⟨xs,rfl,hK⟩:=kindS_ok hk2
      rw [← HK.out] at hK
      have hm0:=HM.out xs rfl
      obtain rfl:=HMM.out xs rfl
      have hbf2:=of_decide_eq_false (HBB.out.symm.trans hbf)
      obtain ⟨f,rfl⟩:∃ f',f=f'+1:=⟨f - 1,by omega⟩
      have hk:=(kind_put hK).2
      have HKR:=Ak hK
      have hm1:m<400:=by omega
      clear hs3 hbf hk2 hK HMM
      obtain ⟨mm,hmm⟩:∃ mm,mm=m+1:=⟨_,rfl⟩
      have hmm1:0≤mm∧mm≤400:=by omega
      rw [← hmm] at HN
      have HMM:=Ak hmm
      clear hmm
      have HBY:=Ak (HST.out.bytes r rfl)
      obtain ⟨⟨d0,d1,d2,d3,d4,d5,d6,d7⟩,y0,y1,y2,y3,y4,y5,y6,y7⟩:=row8t HBX.out.out
      go_upto_block 0 with (fail)
      clear c0 c1 d0 d1 d2 d3 d4 d5 d6 d7 y0 y1 y2 y3 y4 y5 y6 y7
      go_cut [] (fun w5=>∃ o p,Aside0 (TqBx w w5 g gn gO k o p (.slice none 0 0))∧Aside0 (QwnSt w5 g gn mm o (tmOwn k r))∧Aside0 (0<tmKids k→o=o0∧p=pl0))
      case first =>
       by_cases k1:k=1
       ·subst k1
        go_wp2_with (go_at_call 72;go_must (refine (rnumber_any g (.ok r) _ HST.out).mono ?_;rintro e w6 ⟨rfl,hc,hst⟩;have HB6:=Ak (HBX.out.reader (chg_one hc));have HST6:=Ak (show RR w6 g (restR (numR r)) from hst);have HN6:=Ak (HN.out.chgS (S:=fun k=>k=g) (by have:=HNE.out;omega) hc);clear hc hst;obtain ⟨⟨-,a1,-⟩,-,b1,-⟩:=row8t HB6.out.out))
        go_meet
        case rel=>exact qwn_num HBY.out HB6.out rfl HST6.out HN6.out
       ·have hk1:(k == 1)=false:=by simp [k1]
        by_cases k2:k=2
        ·subst k2
         go_upto_region 14 with (fail)
         have HN5:=Ak (show NumAt (wc.alloc (.cells #[.int .i64 0] 3 (0,0))) wc.heap.size 0 from blk_new _ _)
         have HR5:=Ak (HST.out.below (below_alloc (Below.refl _ _) (.cells #[.int .i64 0] 3 (0,0))))
         have HW5:=Ak (below_alloc (Below.refl wc.heap.size wc) (.cells #[.int .i64 0] 3 (0,0)))
         have HZ5:=Ak (show gO<(wc.alloc (.cells #[.int .i64 0] 3 (0,0))).heap.size by have:=blk_lt HBX.out.out;simp only [World.size_alloc];omega)
         obtain ⟨gk,hgk⟩:∃ gk,gk=wc.heap.size:=⟨_,rfl⟩
         obtain ⟨W5,hW5⟩:∃ W5,W5=wc.alloc (.cells #[.int .i64 0] 3 (0,0)):=⟨_,rfl⟩
         rw [← hW5] at HN5 HR5 HW5 HZ5 ⊢
         rw [← hgk] at HN5 ⊢
         have HGK:=Ak hgk
         have hgkl:g<gk:=by rw [hgk];exact HST.out.lt
         clear hgk hW5
         go_wp2_with (go_at_call 111;go_must (refine (rlevel_any 32 g gk (.ok r) 0 1 _ (by decide) (by decide) (fun _ _=>by decide) HR5.out HN5.out hgkl).mono ?_;rintro e w6 ⟨A6,c6,l6,rfl,hl6,hc6,hst6⟩;have HC6:=Ak (chg_drop HW5.out (Nat.le_of_eq HGK.out.symm) hc6);have HB6:=Ak (HBX.out.reader (chg_one HC6.out));have HL6:=Ak hl6;have HST6:=Ak (show RvSt w6 g gk l6 (lvR 32 r 0) from hst6);have HN6:=Ak (HN.out.chgS (S:=fun k=>k=g) (by have:=HNE.out;omega) HC6.out);clear hl6 hc6 hst6;simp only [lvV];obtain ⟨⟨-,-,-,a3,a4,a5,-⟩,-,-,-,b3,b4,b5,-⟩:=row8t HB6.out.out))
         go_meet
         case rel=>exact qwn_lv HB6.out HL6.out HZ5.out HST6.out HN6.out
        ·have hk2:(k == 2)=false:=by simp [k2]
         by_cases k7:k=7
         ·subst k7
          clear k1 k2 hk1 hk2
          go_upto_region 17 with (go_at_call 71;go_must (refine (refName_ok g r _ HST.out).mono ?_;rintro e w6 ⟨s6,rfl,hsz,hc6,hst6,hv6⟩;have HB6:=Ak (HBX.out.reader (chg_one hc6));have HSZ:=Ak hsz;have HST6:=Ak hst6;have HV6:=Ak hv6;have HN6:=Ak (HN.out.chgS (S:=fun k=>k=g) (by have:=HNE.out;omega) hc6);clear hsz hc6 hst6 hv6;obtain ⟨⟨-,-,a2,-⟩,-,-,b2,-⟩:=row8t HB6.out.out))
          clear a2 b2
          have HBN:=Ak (HB6.out.named HSZ.out)
          have HSN:=Ak (HST6.out.chg (S:=fun k=>k=gO) (fun k e=>by have:=HB6.out.far;have:=HB6.out.glt;omega) (chg_set w6 gO 2 (.string s6)))
          have HNN:=Ak (HN6.out.chgS (S:=fun k=>k=gO) (by have:=HB6.out.far;have:=HB6.out.nlt;omega) (chg_set w6 gO 2 (.string s6)))
          obtain ⟨W7,hW7⟩:∃ W7,W7=w6.setCell ⟨gO,2,none⟩ (.string s6):=⟨_,rfl⟩
          rw [← hW7] at HBN HSN HNN ⊢
          clear hW7
          obtain ⟨R1,hR1⟩:∃ R1,R1=nextR (restR (nameR r)) (rNumR 6 18):=⟨_,rfl⟩
          have HR1:=Ak hR1
          have hnb:=okNum_bound (over:=18) (restR (nameR r)) (most:=6) (by decide) HSN.out.bytes
          rw [← hR1] at hnb
          obtain ⟨nn,hnn⟩:∃ nn:Nat,(nn:Int)=okNum R1:=⟨(okNum R1).toNat,by omega⟩
          have HNQ:=Ak hnn
          have hn6:nn≤6:=by omega
          clear hR1 hnb hnn
          go_upto_block 1 with (go_at_call 50;go_must (refine (rNumber_any g _ 6 18 _ HSN.out (by decide) (by decide) (by decide) (by decide) (by decide)).mono ?_;rintro e w8 ⟨rfl,hc8,hst8⟩;rw [← HR1.out,← HNQ.out];have HB8:=Ak (HBN.out.reader (chg_one hc8));have HST8:=Ak (show RR w8 g (restR R1) by rw [HR1.out];exact hst8);have HN8:=Ak (HNN.out.chgS (S:=fun k=>k=g) (by have:=HNE.out;omega) hc8);clear hc8 hst8))
          go_wp2
          go_loopw [81] (fun i wr=>∃ (j:Nat) (V:Value) (l:List Lv),i=.int .u64 j∧j≤nn∧l.length≤j∧Aside0 (j<nn→∃ rj,manyO R1 j=.ok (l,rj))∧Aside0 (QlSt w wr g gn gO s6 V l mm (restR (manyO R1 j)))∧Aside0 (valIs l (manyO R1 j))) (fun i _=>nn - (intOf i).toNat)
          case atStart=>exact ⟨0,_,[],rfl,Nat.zero_le _,Nat.le_refl _,⟨fun h=>by cases hr:R1 with | error e=>rw [hr] at HNQ;have:=HNQ.out;simp only [okNum] at this;omega | ok x=>exact ⟨_,rfl⟩⟩,⟨qlSt_start HB8.out HN8.out (by rw [(manyO_0 R1).1];exact HST8.out)⟩,⟨(manyO_0 R1).2⟩⟩
          case round =>
           obtain ⟨j,V,l,rfl,hj,hlj,HOK,HL,HV⟩:=hrel
           by_cases hlt:j<nn
           ·obtain ⟨rj,hrj⟩:=HOK.out hlt
            have HRJ:=Ak hrj
            have hrs:=HL.out.rr
            rw [hrj] at hrs
            have HRS:=Ak (show RR wr g (.ok rj) from hrs)
            clear hrj hrs
            go_upto_region 20 with (fail)
            have HN5:=Ak (show NumAt (wr.alloc (.cells #[.int .i64 0] 3 (0,0))) wr.heap.size 0 from blk_new _ _)
            have HR5:=Ak (HRS.out.below (below_alloc (Below.refl _ _) (.cells #[.int .i64 0] 3 (0,0))))
            have HW5:=Ak (below_alloc (Below.refl wr.heap.size wr) (.cells #[.int .i64 0] 3 (0,0)))
            have hcv:=HL.out.bx.cell2 (.cells #[.int .i64 0] 3 (0,0))
            have hcz:=blk_frozen (blk_alloc HL.out.bx.out (.cells #[.int .i64 0] 3 (0,0))) 6
            obtain ⟨gk,hgk⟩:∃ gk,gk=wr.heap.size:=⟨_,rfl⟩
            obtain ⟨W5,hW5⟩:∃ W5,W5=wr.alloc (.cells #[.int .i64 0] 3 (0,0)):=⟨_,rfl⟩
            rw [← hW5] at HN5 HR5 HW5 hcv hcz ⊢
            rw [← hgk] at HN5 ⊢
            have HGK:=Ak hgk
            have hgkl:g<gk:=by rw [hgk];exact HL.out.rr.lt
            clear hgk hW5
            go_cut [] (fun w5=>∃ v5 l5,l5.length=l.length+1∧Aside0 (QlSt w w5 g gn gO s6 v5 l5 mm (restR (manyO R1 (j+1))))∧Aside0 (valIs l5 (manyO R1 (j+1))))
            case first =>
             go_region_law (first
              | (go_simp;go_at_call 111;refine (rlevel_any 32 g gk (.ok rj) 0 1 _ (by decide) (by decide) (fun _ _=>by decide) (HR5.out.below (by repeat' first | exact Below.refl _ _ | apply below_drew | apply below_alloc)) (HN5.out.below (by repeat' first | exact Below.refl _ _ | apply below_drew | apply below_alloc)) hgkl).mono ?_;rintro e w5 ⟨A5,c5,l5,rfl,hl5,hc5,hm5⟩;have ST5:=Ak (qlin_in HL.out (Below.trans HW5.out (Below.mono (by repeat' first | exact Below.refl _ _ | apply below_drew | apply below_alloc) HW5.out.size)) (Nat.le_of_eq HGK.out.symm) hc5 hl5);have HST5:=Ak (ql_next HRJ.out hm5);have hcv5:=ST5.out.bx.cell;have hcz5:=blk_frozen ST5.out.bx.out 6;have hcw5:=ST5.out.bx.cell2 (.cells #[.int .i64 l5.kind,.int .i64 l5.num,.slice A5 l5.kids.length c5] 24 (0,0));clear hl5 hc5 hm5;simp only [lvV])
              | (first
                | (have STA:=Ak ST5.out;obtain ⟨cells,fA,fc,hown,hkids⟩:=STA.out.kids;refine step_append_cells (w0:=w5) (W:=w5) (gO+1) (by simp [Region.wanted]) (.tmp 84) (.tmp 87) 22 24 _ 3 40 rfl Try.underlying22 infoLv rfl (by decide) (by decide) V l.length cells [.int .i64 l5.kind,.int .i64 l5.num,.slice A5 l5.kids.length c5] rfl rfl rfl (by simp [Value.oneCell']) hown (Below.refl _ _) STA.out.size (by omega) ?_;intro v6 w6 ho6 _ hg6 hat6;obtain ⟨A6,c6,rfl⟩:=own_slice ho6;have ST6:=Ak (qlin_push STA.out hown hkids ho6 hg6 hat6);have HSTX:=Ak (RR.chg (S:=fun _=>False) HST5.out.1 (fun _ h=>h.elim) (Chg.of_below (by repeat' first | exact Below.refl _ _ | apply below_drew)):RR w5 g (restR (manyO R1 (j+1))));have hcv6:=ST6.out.bx.cell;have hcz6:=blk_frozen ST6.out.bx.out 6;clear hown hkids ho6 hg6 hat6 STA)
                | (have STA:=Ak ST5.out.drew;obtain ⟨cells,fA,fc,hown,hkids⟩:=STA.out.kids;refine step_append_cells (w0:=w5.drew) (W:=w5.drew) (gO+1) (by simp [Region.wanted]) (.tmp 84) (.tmp 87) 22 24 _ 3 40 rfl Try.underlying22 infoLv rfl (by decide) (by decide) V l.length cells [.int .i64 l5.kind,.int .i64 l5.num,.slice A5 l5.kids.length c5] rfl rfl rfl (by simp [Value.oneCell']) hown (Below.refl _ _) STA.out.size (by omega) ?_;intro v6 w6 ho6 _ hg6 hat6;obtain ⟨A6,c6,rfl⟩:=own_slice ho6;have ST6:=Ak (qlin_push STA.out hown hkids ho6 hg6 hat6);have HSTX:=Ak (RR.chg (S:=fun _=>False) HST5.out.1 (fun _ h=>h.elim) (Chg.of_below (by repeat' first | exact Below.refl _ _ | apply below_drew)):RR w5.drew g (restR (manyO R1 (j+1))));have hcv6:=ST6.out.bx.cell;have hcz6:=blk_frozen ST6.out.bx.out 6;clear hown hkids ho6 hg6 hat6 STA)
                | (trace_state;fail)))
             all_goals (try go_wp2)
             all_goals go_meet
             all_goals (exact ⟨_,_,by simp only [List.length_append,List.length_singleton],⟨qlout_fin ST6.out HSTX.out⟩,⟨HST5.out.2⟩⟩)
            case rest =>
             clear HL HV HOK HRJ HRS HN5 HR5 HW5 hcv hcz HGK hgkl
             obtain ⟨V2,l2,hl2,HL,HV⟩:=hcut
             obtain ⟨A6,n6,c6,e6,hg6,hbx6⟩:=HL.out.rr.box
             obtain ⟨-,b1,-,-⟩:=row2t hg6
             clear hg6
             cases hP:manyO R1 (j+1) with
             | error er =>
              rw [hP] at hbx6
              obtain ⟨rfl,hne⟩:=hbx6
              have he:(e6 != 0)=true:=by simp [hne]
              have HP:=Ak hP
              have hst:=HL.out.rr
              rw [hP] at hst
              have HST9:=Ak (show RR _ g (.error e6) from hst)
              obtain ⟨B9,d9,rfl,hbx9⟩:=HL.out.box HSZ.out (by omega)
              obtain ⟨L9,hL9⟩:∃ L9,L9=l2.length:=⟨_,rfl⟩
              have HNM:=Ak HL.out.bx.num
              have HBX9:=Ak hbx9
              have HL9:=Ak hL9
              obtain ⟨⟨d0,d1,d2,d3,d4,d5,d6,d7⟩,-⟩:=row8t HL.out.bx.out
              obtain ⟨⟨e0,e1,e2,e3,e4,e5,e7,e8⟩,x0,x1,x2,x3,x4,x5,x6,x7⟩:=row8t HL.out.bx.res
              rw [← hL9] at d6
              clear hL9 hne hP hst hbx9
              go_wp2
              refine bodyPost_ret (results_c rfl _ _ w.heap.size 27 #[.int .i64 7,.int .i64 0,.string s6,.int .i64 0,.int .i64 0,.slice none 0 0,.slice B9 L9 d9,.slice none 0 0] (0,0) _ rfl (set8 HL.out.bx.res) Try.underlying27 rfl (by kernel_rfl)) rfl ?_
              rw [HL9.out]
              exact tqPost_err HBX9.out (tmR_stop (j:=0) HKR.out hm1 (Nat.zero_le _) (by rw [own7 HV6.out HR1.out,← HNQ.out,Int.toNat_natCast,manyO_stop HP.out (by omega)];rfl)) HST9.out HNM.out _ (chg_set8 _ _ _ _ _ _ _ _ _ _)
             | ok x =>
              rw [hP] at hbx6
              obtain ⟨rfl,-⟩:=hbx6
              have HOK:=Ak (show j+1<nn→∃ rj,manyO R1 (j+1)=.ok (l2,rj) from fun _=>⟨x.2,by have:=HV.out;rw [hP] at this ⊢;rw [show l2=x.1 from this]⟩)
              clear hP
              go_wp2
              go_roundw
              case rel=>exact ⟨j+1,V2,l2,by go_num,by omega,by omega,HOK,HL,HV⟩
              case measure=>(simp [intOf];try omega)
           ·obtain rfl:j=nn:=by omega
            have hlt':decide ((j:Int)<j)=false:=by simp
            obtain ⟨B9,d9,rfl,hbx9⟩:=HL.out.box HSZ.out (by omega)
            have HBX9:=Ak hbx9
            have HQ9:=Ak (show QwnSt wr g gn mm ⟨0,s6,.mk 0 0 [],l⟩ (tmOwn 7 r) by
             rw [own7 HV6.out HR1.out,← HNQ.out,Int.toNat_natCast]
             have h1:=HL.out.rr
             have h2:=HV.out
             refine ⟨?_,HL.out.bx.num,?_⟩
             ·cases hm:manyO R1 j with
              | error e=>rw [hm] at h1;exact h1
              | ok x=>rw [hm] at h1;exact h1
             ·cases hm:manyO R1 j with
              | error e=>trivial
              | ok x=>rw [hm] at h2;obtain rfl:l=x.1:=h2;rfl)
            clear hbx9
            go_wp2
            go_meet
            case rel=>exact ⟨_,_,HBX9,HQ9,⟨fun h=>absurd h (by decide)⟩⟩
         ·have hk7:(k == 7)=false:=by simp [k7]
          have HNO:=Ak (qwn_none (N:=mm) k1 k2 k7 HBX.out HST.out HN.out)
          clear k1 k2 k7
          go_wp2
          go_meet
          case rel=>exact HNO.out
      case rest =>
       clear HBX HST HN
       obtain ⟨o,p,HBX,HOS,HOP⟩:=hcut
       obtain ⟨⟨d0,-⟩,-⟩:=row8t HBX.out.out
       obtain ⟨K,hKK⟩:∃ K,K=tmKids k:=⟨_,rfl⟩
       have hK3:K≤3:=by rw [hKK];exact tmKids_le k
       have HAR:=Ak (show arZ k=(K:Int) by rw [hKK];exact arZ_kids hk.1 hk.2)
       have HKK:=Ak hKK
       clear hKK
       go_upto_block 3 with (go_at_call 67;go_must (refine (refkids_calls k _).mono ?_;rintro e w6 ⟨rfl,hw⟩;rw [HAR.out];subst hw))
       clear d0
       go_wp2
       go_loopw [101] (fun i wr=>∃ (j:Nat) (V:Value) (l:List Tm),i=.int .i64 j∧j≤K∧Aside0 (TqLoop w wr g gn gO k o p V l (tmPre f (tmOwn k r) mm j) j)) (fun i _=>K - (intOf i).toNat)
       case atStart=>exact ⟨0,_,_,rfl,Nat.zero_le _,⟨tqLoop_start HBX.out HOS.out⟩⟩
       case round =>
        obtain ⟨j,V,l,rfl,hj,HL⟩:=hrel
        obtain ⟨A6,n6,c6,e6,hg6,hbx6⟩:=HL.out.st.rr.box
        obtain ⟨-,b1,-,-⟩:=row2t hg6
        clear hg6
        by_cases hlt:j<K
        ·go_upto_block 4 with (fail)
         go_cut [] (fun w5=>∃ v5 l5,Aside0 (TqLoop w w5 g gn gO k o p v5 l5 (tmPre f (tmOwn k r) mm (j+1)) (j+1)))
         case first =>
          cases hP:tmPre f (tmOwn k r) mm j with
           | error er =>
            rw [hP] at hbx6
            obtain ⟨rfl,hne⟩:=hbx6
            have he:(e6 != 0)=true:=by simp [hne]
            have HP:=Ak hP
            obtain ⟨A9,c9,rfl,-⟩:=rowTm_term HL.out.kids
            obtain ⟨L9,hL9⟩:∃ L9,L9=l.length:=⟨_,rfl⟩
            rw [← hL9] at HL
            have HL9:=Ak hL9
            obtain ⟨⟨d0,d1,d2,d3,d4,d5,d6,d7⟩,-⟩:=row8t HL.out.bx.out
            obtain ⟨⟨e0,e1,e2,e3,e4,e5,e7,e8⟩,x0,x1,x2,x3,x4,x5,x6,x7⟩:=row8t HL.out.bx.res
            clear hL9 hne hP
            go_wp2
            refine bodyPost_ret (results_c rfl _ _ w.heap.size 27 #[.int .i64 k,.int .i64 o.n,.string o.s,.int .i64 o.lv.kind,.int .i64 o.lv.num,.slice p.A o.lv.kids.length p.c,.slice p.B o.ls.length p.d,.slice A9 L9 c9] (0,0) _ rfl (set8 HL.out.bx.res) Try.underlying27 rfl (by kernel_rfl)) rfl ?_
            have HLX:=HL.out
            have HPX:=HP.out
            rw [HMM.out] at HLX HPX
            exact tqLoop_end HKR.out hm1 (by rw [← HKK.out];omega) HLX HL9.out HOS.out.2.2 (.inr ⟨_,HPX⟩) (chg_set8 _ _ _ _ _ _ _ _ _ _)
           | ok x =>
            rw [hP] at hbx6
            obtain ⟨rfl,-⟩:=hbx6
            obtain ⟨l',r1,m1⟩:=x
            have hst:=HL.out.st
            rw [hP] at hst
            obtain ⟨rfl,hrr,hnm⟩:=hst
            have HRS:=Ak hrr
            have HNM:=Ak hnm
            have HGR:=Ak (tmPre_grow hP hmm1.1 hmm1.2)
            have HP:=Ak hP
            have hlen:=HL.out.len
            obtain ⟨ho,hp⟩:=HOP.out (by rw [← HKK.out];omega)
            subst ho
            subst hp
            obtain ⟨⟨-,-,-,-,-,-,-,hcv⟩,-,-,-,-,-,-,-,hcz⟩:=row8t HL.out.bx.out
            clear hP hrr hnm
            go_upto_region 28 with (fail)
            have hw9:IntKind.i64.wrap (d+1)=d+1:=IntWalk.i64_in _ (by omega)
            go_region_law (first
             | (go_simp;go_at_call 93;(try rw [hw9]);refine (IH.out f (Nat.lt_succ_self f) g gn (.ok r1) m1 (d+1) _ (by omega) (by omega) (fun _ _=>HGR.out) (HRS.out.below (by repeat' first | exact Below.refl _ _ | apply below_drew | apply below_alloc)) (HNM.out.below (by repeat' first | exact Below.refl _ _ | apply below_drew | apply below_alloc)) HNE.out).mono ?_;rintro e w5 ⟨q5,t5,rfl,hl5,hc5,hm5⟩;have ST5:=Ak (qin_in HL.out.bx HL.out.kids (by repeat' first | exact Below.refl _ _ | apply below_drew | apply below_alloc) hc5 hl5);have HST5:=Ak (tq_next HP.out hm5);have hcv5:=ST5.out.cell;have hcz5:=blk_frozen ST5.out.bx.out 7;have hcw5:=ST5.out.cell2 (.cells #[.int .i64 t5.kind,.int .i64 t5.num,.string t5.name,.int .i64 t5.lv.kind,.int .i64 t5.lv.num,.slice q5.A t5.lv.kids.length q5.c,.slice q5.B t5.ls.length q5.d,.slice q5.K t5.kids.length q5.e] 27 (0,0));clear hl5 hc5 hm5;simp only [tmV])
             | (first
               | (have STA:=Ak ST5.out;obtain ⟨cells,qq,hown,hkids⟩:=STA.out.kids;refine step_append_cells (w0:=w5) (W:=w5) (gO+1) (by simp [Region.wanted]) (.tmp 111) (.tmp 117) 25 27 _ 8 120 rfl Try.underlying25 infoTmD rfl (by decide) (by decide) V l.length cells (tmC q5 t5) rfl rfl rfl (List.all_eq_true.1 rfl) hown (Below.refl _ _) STA.out.size (by omega) ?_;intro v6 w6 ho6 _ hg6 hat6;obtain ⟨A6,c6,rfl⟩:=own_slice ho6;have ST6:=Ak (qin_push STA.out hown hkids ho6 hg6 hat6);have HSTX:=Ak (HST5.out.chg (S:=fun _=>False) (fun _ h=>h.elim) (fun h=>h) (Chg.of_below (by repeat' first | exact Below.refl _ _ | apply below_drew)):TqLt w5 g gn (l ++ [t5]) (tmPre f (tmOwn k r) mm (j+1)));have hcv6:=(row8t ST6.out.bx.out).1.2.2.2.2.2.2.2;have hcz6:=blk_frozen ST6.out.bx.out 7;clear hown hkids ho6 hg6 hat6 STA)
               | (have STA:=Ak ST5.out.drew;obtain ⟨cells,qq,hown,hkids⟩:=STA.out.kids;refine step_append_cells (w0:=w5.drew) (W:=w5.drew) (gO+1) (by simp [Region.wanted]) (.tmp 111) (.tmp 117) 25 27 _ 8 120 rfl Try.underlying25 infoTmD rfl (by decide) (by decide) V l.length cells (tmC q5 t5) rfl rfl rfl (List.all_eq_true.1 rfl) hown (Below.refl _ _) STA.out.size (by omega) ?_;intro v6 w6 ho6 _ hg6 hat6;obtain ⟨A6,c6,rfl⟩:=own_slice ho6;have ST6:=Ak (qin_push STA.out hown hkids ho6 hg6 hat6);have HSTX:=Ak (HST5.out.chg (S:=fun _=>False) (fun _ h=>h.elim) (fun h=>h) (Chg.of_below (by repeat' first | exact Below.refl _ _ | apply below_drew)):TqLt w5.drew g gn (l ++ [t5]) (tmPre f (tmOwn k r) mm (j+1)));have hcv6:=(row8t ST6.out.bx.out).1.2.2.2.2.2.2.2;have hcz6:=blk_frozen ST6.out.bx.out 7;clear hown hkids ho6 hg6 hat6 STA)
               | (trace_state;fail)))
            all_goals (try go_wp2)
            all_goals go_meet
            all_goals (exact qout_fin ST6.out HSTX.out (by simp only [List.length_append,List.length_singleton];omega))
         case rest =>
          clear HL
          obtain ⟨V2,l2,HL⟩:=hcut
          go_wp2
          go_roundw
          case rel=>exact ⟨j+1,V2,l2,by go_num,by omega,HL⟩
          case measure=>(simp [intOf];try omega)
        ·obtain rfl:j=K:=by omega
         have hlt':decide ((j:Int)<j)=false:=by simp
         obtain ⟨A9,c9,rfl,-⟩:=rowTm_term HL.out.kids
         obtain ⟨L9,hL9⟩:∃ L9,L9=l.length:=⟨_,rfl⟩
         rw [← hL9] at HL
         have HL9:=Ak hL9
         obtain ⟨⟨d0,d1,d2,d3,d4,d5,d6,d7⟩,-⟩:=row8t HL.out.bx.out
         obtain ⟨⟨e0,e1,e2,e3,e4,e5,e7,e8⟩,x0,x1,x2,x3,x4,x5,x6,x7⟩:=row8t HL.out.bx.res
         clear hL9
         go_wp2
         refine bodyPost_ret (results_c rfl _ _ w.heap.size 27 #[.int .i64 k,.int .i64 o.n,.string o.s,.int .i64 o.lv.kind,.int .i64 o.lv.num,.slice p.A o.lv.kids.length p.c,.slice p.B o.ls.length p.d,.slice A9 L9 c9] (0,0) _ rfl (set8 HL.out.bx.res) Try.underlying27 rfl (by kernel_rfl)) rfl ?_
         have HLX:=HL.out
         rw [HMM.out] at HLX
         exact tqLoop_end HKR.out hm1 (by rw [← HKK.out];omega) HLX HL9.out HOS.out.2.2 (.inl HKK.out) (chg_set8 _ _ _ _ _ _ _ _ _ _)
theorem rterm_any (f:Nat):∀ (g gn:Nat) (s:Except Int (List Int)) (m d:Int) (w:World),1≤d→(f:Int)+d=65→(∀ xs,s=.ok xs→0≤m∧m≤400)→RR w g s→NumAt w gn m→g<gn→Calls Try.prog 93 #[.pointer (some ⟨g,0,none⟩),.int .i64 d,.pointer (some ⟨gn,0,none⟩)] w (TqPost w g gn (nextTm f s m)):=by
 induction f using Nat.strongRecOn with
 | _ f ih=>exact fun g gn s m d w h1 h2 h3 h4 h5 h6=>rterm_step f ih g gn s m d w h1 h2 h3 h4 h5 h6
end Go.Proofs.Ytcgkeolgflphiaa

namespace Go.Proofs.Ytcgkeolgflphiaa
open Go.RowKit Go.Proofs.YtcgkeolgflphiaaW.PrintWords Go.RegionInvYtcgkeolgflphiaa

def AnyTq (w:World) (g:Nat) (R:Except Int (Tm × List Int)) (e:Ending) (w':World):Prop:=
 ∃ p t,e=.returned (tmV p t)∧TmS w' (fun b=>w.heap.size≤b) p t∧Chg (fun k=>k=g) w w'∧RR w' g (restR R)∧valIs t R
theorem tq_whole {w W5:World} {g gn:Nat} {s:Except Int (List Int)} {t:Tm} (h:TqSt W5 g gn t (nextTm 64 s 0)):RR W5 g (restR (nextR s wholeR))∧valIs t (nextR s wholeR):=by
 cases s with
 | error e=>exact ⟨h.1,trivial⟩
 | ok xs =>
  change TqSt W5 g gn t (tmR 64 xs 0) at h
  show RR W5 g (restR (wholeR xs))∧valIs t (wholeR xs)
  unfold wholeR
  cases hr:tmR 64 xs 0 with
  | error e=>rw [hr] at h;exact ⟨h.1,trivial⟩
  | ok x=>rw [hr] at h;exact ⟨h.2.1,h.1⟩
theorem rwhole_any (g:Nat) (s:Except Int (List Int)) (w:World) (h:RR w g s) :
  Calls Try.prog 73 #[.pointer (some ⟨g,0,none⟩)] w (AnyTq w g (nextR s wholeR)):=by
 have HGL:=Ak h.lt
 have hb:Below w.heap.size w ((w.alloc (tzO 0)).alloc (.cells #[.int .i64 0] 3 (0,0))):=below_alloc (below_alloc (Below.refl _ _) _) _
 have HR0:=Ak (h.below hb)
 have HX0:=Ak (show ((w.alloc (tzO 0)).alloc (.cells #[.int .i64 0] 3 (0,0))).heap[w.heap.size]?=some (tzO 0) from blk_alloc (blk_new _ _) _)
 have hn:=blk_new (w.alloc (tzO 0)) (.cells #[.int .i64 0] 3 (0,0))
 have hz0:(w.alloc (tzO 0)).heap.size=w.heap.size+1:=by simp
 rw [hz0] at hn
 have HN0:=Ak (show NumAt ((w.alloc (tzO 0)).alloc (.cells #[.int .i64 0] 3 (0,0))) (w.heap.size+1) 0 from hn)
 have HB0:=Ak hb
 have HZ0:=Ak (show ((w.alloc (tzO 0)).alloc (.cells #[.int .i64 0] 3 (0,0))).heap.size=w.heap.size+2 by simp)
 clear h hb hn hz0
 go_enter Try.func73,Try.ntmps73
 go_upto_region 2 with (fail)
 (try simp only [World.size_alloc])
 obtain ⟨W0,hW0⟩:∃ W0,W0=(w.alloc (tzO 0)).alloc (.cells #[.int .i64 0] 3 (0,0)):=⟨_,rfl⟩
 rw [← hW0] at HR0 HX0 HN0 HB0 HZ0 ⊢
 clear hW0
 go_wp2_with (go_at_call 93;go_must (refine (rterm_any 64 g (w.heap.size+1) s 0 1 _ (by decide) (by decide) (fun _ _=>by decide) HR0.out HN0.out (by have:=HGL.out;omega)).mono ?_;rintro e w5 ⟨p5,t5,rfl,hl5,hc5,hm5⟩;have HC5:=Ak (chg_drop HB0.out (Nat.le_succ _) hc5);have HX5:=Ak ((hc5.block _ (blk_lt HX0.out) (by have:=HGL.out;omega)).trans HX0.out);have HL5:=Ak hl5;have HM5:=Ak (tq_whole (w:=w) hm5);clear hl5 hc5 hm5;obtain ⟨⟨e0,e1,e2,e3,e4,e5,e6,e7⟩,x0,x1,x2,x3,x4,x5,x6,x7⟩:=row8t HX5.out;simp only [tmV]))
 refine bodyPost_ret (results_c rfl _ _ w.heap.size 27 #[.int .i64 t5.kind,.int .i64 t5.num,.string t5.name,.int .i64 t5.lv.kind,.int .i64 t5.lv.num,.slice p5.A t5.lv.kids.length p5.c,.slice p5.B t5.ls.length p5.d,.slice p5.K t5.kids.length p5.e] (0,0) _ rfl (set8 HX5.out) Try.underlying27 rfl (by kernel_rfl)) rfl ?_
 have hch:=chg_set8 w5 w.heap.size (.int .i64 t5.kind) (.int .i64 t5.num) (.string t5.name) (.int .i64 t5.lv.kind) (.int .i64 t5.lv.num) (.slice p5.A t5.lv.kids.length p5.c) (.slice p5.B t5.ls.length p5.d) (.slice p5.K t5.kids.length p5.e)
 have h0:=HC5.out
 have hz:=HZ0.out
 have hgl:=HGL.out
 refine ⟨p5,t5,rfl,(HL5.out.same fun k hk _=>hch.block k (by omega) (by omega)).mono fun k hk _=>by omega,⟨hch.os.trans h0.os,hch.tape.trans h0.tape,hch.output.trans h0.output,Nat.le_trans h0.size hch.size,fun i hi hs=>?_⟩,HM5.out.1.chg (S:=fun k=>k=w.heap.size) (fun k e=>by omega) hch,HM5.out.2⟩
 rw [hch.block i (Nat.lt_of_lt_of_le hi h0.size) (by omega),h0.block i hi hs]
set_option maxHeartbeats 4000000 in
theorem set21t {w:World} {g:Nat} {x0 x1 x2 x3 x4 x5 x6 x7 x8 x9 x10 x11 x12 x13 x14 x15 x16 x17 x18 x19 x20 a3 a4 a5 a6 a7 a8 a9 a10:Value} {t:TypeId} (h:w.heap[g]?=some (.cells #[x0,x1,x2,x3,x4,x5,x6,x7,x8,x9,x10,x11,x12,x13,x14,x15,x16,x17,x18,x19,x20] t (0,0))) :
  ((((((((w.setCell ⟨g,3,none⟩ a3).setCell ⟨g,4,none⟩ a4).setCell ⟨g,5,none⟩ a5).setCell ⟨g,6,none⟩ a6).setCell ⟨g,7,none⟩ a7).setCell ⟨g,8,none⟩ a8).setCell ⟨g,9,none⟩ a9).setCell ⟨g,10,none⟩ a10).heap[g]?=some (.cells #[x0,x1,x2,a3,a4,a5,a6,a7,a8,a9,a10,x11,x12,x13,x14,x15,x16,x17,x18,x19,x20] t (0,0)):=by
 have h3:(w.setCell ⟨g,3,none⟩ a3).heap[g]?=some (.cells #[x0,x1,x2,a3,x4,x5,x6,x7,x8,x9,x10,x11,x12,x13,x14,x15,x16,x17,x18,x19,x20] t (0,0)):=blk_put h 3 a3 rfl
 have h4:((w.setCell ⟨g,3,none⟩ a3).setCell ⟨g,4,none⟩ a4).heap[g]?=some (.cells #[x0,x1,x2,a3,a4,x5,x6,x7,x8,x9,x10,x11,x12,x13,x14,x15,x16,x17,x18,x19,x20] t (0,0)):=blk_put h3 4 a4 rfl
 have h5:(((w.setCell ⟨g,3,none⟩ a3).setCell ⟨g,4,none⟩ a4).setCell ⟨g,5,none⟩ a5).heap[g]?=some (.cells #[x0,x1,x2,a3,a4,a5,x6,x7,x8,x9,x10,x11,x12,x13,x14,x15,x16,x17,x18,x19,x20] t (0,0)):=blk_put h4 5 a5 rfl
 have h6:((((w.setCell ⟨g,3,none⟩ a3).setCell ⟨g,4,none⟩ a4).setCell ⟨g,5,none⟩ a5).setCell ⟨g,6,none⟩ a6).heap[g]?=some (.cells #[x0,x1,x2,a3,a4,a5,a6,x7,x8,x9,x10,x11,x12,x13,x14,x15,x16,x17,x18,x19,x20] t (0,0)):=blk_put h5 6 a6 rfl
 have h7:(((((w.setCell ⟨g,3,none⟩ a3).setCell ⟨g,4,none⟩ a4).setCell ⟨g,5,none⟩ a5).setCell ⟨g,6,none⟩ a6).setCell ⟨g,7,none⟩ a7).heap[g]?=some (.cells #[x0,x1,x2,a3,a4,a5,a6,a7,x8,x9,x10,x11,x12,x13,x14,x15,x16,x17,x18,x19,x20] t (0,0)):=blk_put h6 7 a7 rfl
 have h8:((((((w.setCell ⟨g,3,none⟩ a3).setCell ⟨g,4,none⟩ a4).setCell ⟨g,5,none⟩ a5).setCell ⟨g,6,none⟩ a6).setCell ⟨g,7,none⟩ a7).setCell ⟨g,8,none⟩ a8).heap[g]?=some (.cells #[x0,x1,x2,a3,a4,a5,a6,a7,a8,x9,x10,x11,x12,x13,x14,x15,x16,x17,x18,x19,x20] t (0,0)):=blk_put h7 8 a8 rfl
 have h9:(((((((w.setCell ⟨g,3,none⟩ a3).setCell ⟨g,4,none⟩ a4).setCell ⟨g,5,none⟩ a5).setCell ⟨g,6,none⟩ a6).setCell ⟨g,7,none⟩ a7).setCell ⟨g,8,none⟩ a8).setCell ⟨g,9,none⟩ a9).heap[g]?=some (.cells #[x0,x1,x2,a3,a4,a5,a6,a7,a8,a9,x10,x11,x12,x13,x14,x15,x16,x17,x18,x19,x20] t (0,0)):=blk_put h8 9 a9 rfl
 have h10:((((((((w.setCell ⟨g,3,none⟩ a3).setCell ⟨g,4,none⟩ a4).setCell ⟨g,5,none⟩ a5).setCell ⟨g,6,none⟩ a6).setCell ⟨g,7,none⟩ a7).setCell ⟨g,8,none⟩ a8).setCell ⟨g,9,none⟩ a9).setCell ⟨g,10,none⟩ a10).heap[g]?=some (.cells #[x0,x1,x2,a3,a4,a5,a6,a7,a8,a9,a10,x11,x12,x13,x14,x15,x16,x17,x18,x19,x20] t (0,0)):=blk_put h9 10 a10 rfl
 exact h10
theorem chg_set21t (w:World) (g:Nat) (a3 a4 a5 a6 a7 a8 a9 a10:Value):Chg (fun k=>k=g) w ((((((((w.setCell ⟨g,3,none⟩ a3).setCell ⟨g,4,none⟩ a4).setCell ⟨g,5,none⟩ a5).setCell ⟨g,6,none⟩ a6).setCell ⟨g,7,none⟩ a7).setCell ⟨g,8,none⟩ a8).setCell ⟨g,9,none⟩ a9).setCell ⟨g,10,none⟩ a10):=chg_trans (chg_trans (chg_trans (chg_trans (chg_trans (chg_trans (chg_trans (chg_set _ _ _ _) (chg_set _ _ _ _)) (chg_set _ _ _ _)) (chg_set _ _ _ _)) (chg_set _ _ _ _)) (chg_set _ _ _ _)) (chg_set _ _ _ _)) (chg_set _ _ _ _)
theorem row21t {w:World} {g:Nat} {x0 x1 x2 x3 x4 x5 x6 x7 x8 x9 x10 x11 x12 x13 x14 x15 x16 x17 x18 x19 x20:Value} {t:TypeId} (h:w.heap[g]?=some (.cells #[x0,x1,x2,x3,x4,x5,x6,x7,x8,x9,x10,x11,x12,x13,x14,x15,x16,x17,x18,x19,x20] t (0,0))) :
  (w.cell? ⟨g,0,none⟩=some x0∧w.cell? ⟨g,1,none⟩=some x1∧w.cell? ⟨g,2,none⟩=some x2∧w.cell? ⟨g,3,none⟩=some x3∧w.cell? ⟨g,4,none⟩=some x4∧w.cell? ⟨g,5,none⟩=some x5∧w.cell? ⟨g,6,none⟩=some x6∧w.cell? ⟨g,7,none⟩=some x7∧w.cell? ⟨g,8,none⟩=some x8∧w.cell? ⟨g,9,none⟩=some x9∧w.cell? ⟨g,10,none⟩=some x10)∧w.frozen? ⟨g,0,none⟩=false∧w.frozen? ⟨g,1,none⟩=false∧w.frozen? ⟨g,2,none⟩=false∧w.frozen? ⟨g,3,none⟩=false∧w.frozen? ⟨g,4,none⟩=false∧w.frozen? ⟨g,5,none⟩=false∧w.frozen? ⟨g,6,none⟩=false∧w.frozen? ⟨g,7,none⟩=false∧w.frozen? ⟨g,8,none⟩=false∧w.frozen? ⟨g,9,none⟩=false∧w.frozen? ⟨g,10,none⟩=false:=by
 refine ⟨⟨?_,?_,?_,?_,?_,?_,?_,?_,?_,?_,?_⟩,blk_frozen h 0,blk_frozen h 1,blk_frozen h 2,blk_frozen h 3,blk_frozen h 4,blk_frozen h 5,blk_frozen h 6,blk_frozen h 7,blk_frozen h 8,blk_frozen h 9,blk_frozen h 10⟩ <;> (rw [cell_of_row _ _ _ _ _ _ h];rfl)
theorem set9t {w:World} {g:Nat} {x0 x1 x2 x3 x4 x5 x6 x7 x8 a1 a2 a3 a4 a5 a6 a7 a8:Value} {t:TypeId} (h:w.heap[g]?=some (.cells #[x0,x1,x2,x3,x4,x5,x6,x7,x8] t (0,0))) :
  ((((((((w.setCell ⟨g,1,none⟩ a1).setCell ⟨g,2,none⟩ a2).setCell ⟨g,3,none⟩ a3).setCell ⟨g,4,none⟩ a4).setCell ⟨g,5,none⟩ a5).setCell ⟨g,6,none⟩ a6).setCell ⟨g,7,none⟩ a7).setCell ⟨g,8,none⟩ a8).heap[g]?=some (.cells #[x0,a1,a2,a3,a4,a5,a6,a7,a8] t (0,0)):=by
 have h1:(w.setCell ⟨g,1,none⟩ a1).heap[g]?=some (.cells #[x0,a1,x2,x3,x4,x5,x6,x7,x8] t (0,0)):=blk_put h 1 a1 rfl
 have h2:((w.setCell ⟨g,1,none⟩ a1).setCell ⟨g,2,none⟩ a2).heap[g]?=some (.cells #[x0,a1,a2,x3,x4,x5,x6,x7,x8] t (0,0)):=blk_put h1 2 a2 rfl
 have h3:(((w.setCell ⟨g,1,none⟩ a1).setCell ⟨g,2,none⟩ a2).setCell ⟨g,3,none⟩ a3).heap[g]?=some (.cells #[x0,a1,a2,a3,x4,x5,x6,x7,x8] t (0,0)):=blk_put h2 3 a3 rfl
 have h4:((((w.setCell ⟨g,1,none⟩ a1).setCell ⟨g,2,none⟩ a2).setCell ⟨g,3,none⟩ a3).setCell ⟨g,4,none⟩ a4).heap[g]?=some (.cells #[x0,a1,a2,a3,a4,x5,x6,x7,x8] t (0,0)):=blk_put h3 4 a4 rfl
 have h5:(((((w.setCell ⟨g,1,none⟩ a1).setCell ⟨g,2,none⟩ a2).setCell ⟨g,3,none⟩ a3).setCell ⟨g,4,none⟩ a4).setCell ⟨g,5,none⟩ a5).heap[g]?=some (.cells #[x0,a1,a2,a3,a4,a5,x6,x7,x8] t (0,0)):=blk_put h4 5 a5 rfl
 have h6:((((((w.setCell ⟨g,1,none⟩ a1).setCell ⟨g,2,none⟩ a2).setCell ⟨g,3,none⟩ a3).setCell ⟨g,4,none⟩ a4).setCell ⟨g,5,none⟩ a5).setCell ⟨g,6,none⟩ a6).heap[g]?=some (.cells #[x0,a1,a2,a3,a4,a5,a6,x7,x8] t (0,0)):=blk_put h5 6 a6 rfl
 have h7:(((((((w.setCell ⟨g,1,none⟩ a1).setCell ⟨g,2,none⟩ a2).setCell ⟨g,3,none⟩ a3).setCell ⟨g,4,none⟩ a4).setCell ⟨g,5,none⟩ a5).setCell ⟨g,6,none⟩ a6).setCell ⟨g,7,none⟩ a7).heap[g]?=some (.cells #[x0,a1,a2,a3,a4,a5,a6,a7,x8] t (0,0)):=blk_put h6 7 a7 rfl
 have h8:((((((((w.setCell ⟨g,1,none⟩ a1).setCell ⟨g,2,none⟩ a2).setCell ⟨g,3,none⟩ a3).setCell ⟨g,4,none⟩ a4).setCell ⟨g,5,none⟩ a5).setCell ⟨g,6,none⟩ a6).setCell ⟨g,7,none⟩ a7).setCell ⟨g,8,none⟩ a8).heap[g]?=some (.cells #[x0,a1,a2,a3,a4,a5,a6,a7,a8] t (0,0)):=blk_put h7 8 a8 rfl
 exact h8
theorem chg_set9t (w:World) (g:Nat) (a1 a2 a3 a4 a5 a6 a7 a8:Value):Chg (fun k=>k=g) w ((((((((w.setCell ⟨g,1,none⟩ a1).setCell ⟨g,2,none⟩ a2).setCell ⟨g,3,none⟩ a3).setCell ⟨g,4,none⟩ a4).setCell ⟨g,5,none⟩ a5).setCell ⟨g,6,none⟩ a6).setCell ⟨g,7,none⟩ a7).setCell ⟨g,8,none⟩ a8):=chg_trans (chg_trans (chg_trans (chg_trans (chg_trans (chg_trans (chg_trans (chg_set _ _ _ _) (chg_set _ _ _ _)) (chg_set _ _ _ _)) (chg_set _ _ _ _)) (chg_set _ _ _ _)) (chg_set _ _ _ _)) (chg_set _ _ _ _)) (chg_set _ _ _ _)
def AnyDq (w:World) (g:Nat) (R:Except Int (Dc × List Int)) (e:Ending) (w':World):Prop:=
 ∃ P d,e=.returned (dcV P d)∧DcS w' (fun b=>w.heap.size≤b) P d∧Chg (fun k=>k=g) w w'∧RR w' g (restR R)∧valIs d R
theorem dq_fin {w wc:World} {g gO:Nat} {P:DPl} {d:Dc} {R:Except Int (Dc × List Int)} (hb:DcBx w wc g gO P d) (hm:RR wc g (restR R)) (hv:valIs d R):AnyDq w g R (.returned (dcV P d)) (wc.setRow w.heap.size (dcA P d)):=by
 have hch:=chg_setRow wc w.heap.size (dcA P d)
 have hglt:=hb.glt
 refine ⟨P,d,rfl,(hb.mem.same fun k hk _=>hch.block k (by assumption) (by have:=hk.1;omega)).mono fun k hk _=>Nat.le_of_lt hk.1,⟨hch.os.trans hb.chg.os,hch.tape.trans hb.chg.tape,hch.output.trans hb.chg.output,Nat.le_trans hb.chg.size hch.size,fun i hi hs=>?_⟩,hm.chg (S:=fun k=>k=w.heap.size) (fun k e=>by omega) hch,hv⟩
 rw [hch.block i (Nat.lt_of_lt_of_le hi hb.chg.size) (by omega),hb.chg.block i hi hs]
theorem valIs_num (R:Except Int (Int × List Int)):valIs (okNum R) R:=by cases R with | error e=>trivial | ok x=>rfl
theorem dq_err {s:Except Int (List Int)} {e:Int} (h:kindS 3 s=.error e):nextR s dcR=.error e:=by
 rw [kindS_eq] at h
 cases s with
 | error e'=>cases h;rfl
 | ok xs =>
  show dcR xs=_
  unfold dcR
  cases hk:kindR 3 xs with
  | error e'=>rw [show nextR (.ok xs) (kindR 3)=kindR 3 xs from rfl,hk] at h;cases h;rfl
  | ok x=>rw [show nextR (.ok xs) (kindR 3)=kindR 3 xs from rfl,hk] at h;cases h
def manyQ {α:Type} (f:List Int→Except Int (α × List Int)) (R1:Except Int (Int × List Int)) (j:Nat):Except Int (List α × List Int):=match R1 with
 | .error e=>.error e
 | .ok (_,r1)=>manyR f j r1
theorem manyQ_0 {α:Type} (f:List Int→Except Int (α × List Int)) (R1:Except Int (Int × List Int)):restR (manyQ f R1 0)=restR R1∧valIs ([]:List α) (manyQ f R1 0):=by
 cases R1 with
 | error e=>exact ⟨rfl,trivial⟩
 | ok x=>exact ⟨rfl,rfl⟩
theorem manyQ_ok {α:Type} {f:List Int→Except Int (α × List Int)} {R1:Except Int (Int × List Int)} {j:Nat} {l:List α} {r:List Int} (h:manyQ f R1 j=.ok (l,r)):manyQ f R1 (j+1)=match f r with
  | .error e=>.error e
  | .ok (t,r')=>.ok (l ++ [t],r'):=by
 cases R1 with
 | error e=>cases h
 | ok x =>
  obtain ⟨n,r1⟩:=x
  show manyR f (j+1) r1=_
  change manyR f j r1=_ at h
  rw [many_snoc,h]
  first
   | done
   | (simp only []; cases f r <;> rfl)
theorem manyQ_stop {α:Type} {f:List Int→Except Int (α × List Int)} {R1:Except Int (Int × List Int)} {j i:Nat} {e:Int} (h:manyQ f R1 j=.error e) (hi:j≤i):manyQ f R1 i=.error e:=by
 cases R1 with
 | error e'=>exact h
 | ok x =>
  obtain ⟨n,r1⟩:=x
  have:=many_stop (show manyR f j r1=.error e from h) (i - j)
  rwa [show j+(i - j)=i by omega] at this
theorem manyQ_list {α:Type} {f:List Int→Except Int (α × List Int)} {s:Except Int (List Int)} {most:Int} {R1:Except Int (Int × List Int)} (h:R1=nextR s (rNumR most 18)):nextR s (listR most f)=manyQ f R1 (okNum R1).toNat:=by
 subst h
 cases s with
 | error e=>rfl
 | ok xs =>
  show listR most f xs=manyQ f (rNumR most 18 xs) (okNum (rNumR most 18 xs)).toNat
  rw [listR_num]
  cases rNumR most 18 xs with
  | error e=>rfl
  | ok x=>rfl
theorem manyQ_next {α:Type} {f:List Int→Except Int (α × List Int)} {W:World} {g j:Nat} {R1:Except Int (Int × List Int)} {l:List α} {x:α} {r:List Int} (h:manyQ f R1 j=.ok (l,r)) (h1:RR W g (restR (nextR (.ok r) f))) (h2:valIs x (nextR (.ok r) f)):RR W g (restR (manyQ f R1 (j+1)))∧valIs (l ++ [x]) (manyQ f R1 (j+1)):=by
 rw [manyQ_ok h]
 change RR W g (restR (f r)) at h1
 change valIs x (f r) at h2
 cases hl:f r with
 | error e=>rw [hl] at h1;exact ⟨h1,trivial⟩
 | ok y=>rw [hl] at h1 h2;exact ⟨h1,by show l ++ [x]=l ++ [y.1];rw [show x=y.1 from h2]⟩
theorem chg_new {S:Nat→Prop} {w w2 W:World} {gc:Nat} (h:Chg S w w2) (hc:Chg (fun k=>k=gc) w2 W) (hg:w.heap.size≤gc):Chg S w W:=by
 refine ⟨hc.os.trans h.os,hc.tape.trans h.tape,hc.output.trans h.output,Nat.le_trans h.size hc.size,fun i hi hs=>?_⟩
 rw [hc.block i (Nat.lt_of_lt_of_le hi h.size) (by omega),h.block i hi hs]
def pl21 (p:Pl):DPl:=⟨p,⟨none,0,none,0,none,0⟩,none,0,fun _=>default⟩
abbrev cqO (p:Pl) (nm:ByteArray) (v:Int) (t:Tm) (q:Int) (V:Value):Obj:=.cells #[.int .i64 3,.string nm,.int .i64 v,.int .i64 t.kind,.int .i64 t.num,.string t.name,.int .i64 t.lv.kind,.int .i64 t.lv.num,.slice p.A t.lv.kids.length p.c,.slice p.B t.ls.length p.d,.slice p.K t.kids.length p.e,.int .i64 0,.int .i64 0,.string ⟨#[]⟩,.int .i64 0,.int .i64 0,.slice none 0 0,.slice none 0 0,.slice none 0 0,.int .i64 q,V] 30 (0,0)
structure CqB (w W:World) (g gO lo:Nat) (p:Pl) (nm:ByteArray) (v:Int) (t:Tm) (q:Int) (V:Value) (l:List Ct):Prop where
 out:W.heap[gO]?=some (cqO p nm v t q V)
 res:W.heap[w.heap.size]?=some dzO
 chg:Chg (fun k=>k=g) w W
 far:w.heap.size<gO
 glt:g<w.heap.size
 lof:gO<lo
 los:lo≤W.heap.size
 ty:TmS W (fun b=>w.heap.size<b∧b≠gO∧b<lo) p t
 nms:nm.size≤140737488355328
 kids:RowG eCt W lo V l
theorem CqB.reader {w W W':World} {g gO lo:Nat} {p:Pl} {nm:ByteArray} {v:Int} {t:Tm} {q:Int} {V:Value} {l:List Ct} (h:CqB w W g gO lo p nm v t q V l) (hc:Chg (fun k=>k=g) W W'):CqB w W' g gO lo p nm v t q V l:=by
 have h1:=h.far
 have h2:=h.glt
 have h3:=h.lof
 have h4:=hc.size
 have h5:=h.los
 exact ⟨(hc.block _ (blk_lt h.out) (by omega)).trans h.out,(hc.block _ (blk_lt h.res) (by omega)).trans h.res,chg_trans h.chg hc,h1,h2,h3,by omega,h.ty.same fun k hk hz=>hc.block k hz (by have:=hk.1;omega),h.nms,h.kids.keep hc (fun k e=>by omega)⟩
theorem CqB.below {w W W':World} {g gO lo:Nat} {p:Pl} {nm:ByteArray} {v:Int} {t:Tm} {q:Int} {V:Value} {l:List Ct} (h:CqB w W g gO lo p nm v t q V l) (hb:Below W.heap.size W W'):CqB w W' g gO lo p nm v t q V l:=h.reader (Chg.of_below hb)
theorem cqB_start {w W:World} {g gO:Nat} {p:Pl} {nm:ByteArray} {v:Int} {t:Tm} {q:Int} (h:DcBx w W g gO (pl21 p) ⟨3,nm,v,t,noT,q,[]⟩):CqB w W g gO W.heap.size p nm v t q (.slice none 0 0) []:=by
 have hlt:=blk_lt h.out
 exact ⟨h.out,h.res,h.chg,h.far,h.glt,hlt,Nat.le_refl _,h.mem.ty.mono fun k hk hz=>⟨hk.1,hk.2,hz⟩,h.mem.nm,RowG.nil _ _ _⟩
theorem CqB.done {w W:World} {g gO lo:Nat} {p:Pl} {nm:ByteArray} {v:Int} {t:Tm} {q:Int} {V:Value} {l:List Ct} (h:CqB w W g gO lo p nm v t q V l):∃ C e qq,V=.slice C l.length e∧DcBx w W g gO ⟨p,⟨none,0,none,0,none,0⟩,C,e,qq⟩ ⟨3,nm,v,t,noT,q,l⟩:=by
 obtain ⟨C,e,qq,rfl,hle,hct⟩:=rowCt_dc h.kids
 have h1:=h.far
 have h2:=h.lof
 exact ⟨C,e,qq,rfl,h.out,h.res,h.chg,h.far,h.glt,⟨h.ty.mono fun k hk _=>⟨hk.1,hk.2.1⟩,noT_in _ _,hle,h.nms,fun i c hc=>by obtain ⟨a,b,d⟩:=hct i c hc;exact ⟨a.mono fun k hk _=>⟨by omega,by omega⟩,b.mono fun k hk _=>⟨by omega,by omega⟩,d⟩⟩⟩
theorem valIs_bad {α:Type} {x:α} {e:Int} {R:Except Int (α × List Int)} (h:restR R=.error e):valIs x R:=by
 cases R with
 | error e=>trivial
 | ok y=>cases h
theorem CqB.push {w W w6:World} {g gO lo:Nat} {p:Pl} {nm:ByteArray} {v:Int} {t:Tm} {q:Int} {V v6:Value} {l:List Ct} {qq:Nat→Pl} {cs:List Value} {x:Ct} {q5:Pl} (h:CqB w W g gO lo p nm v t q V l)
  (ho:W.ownsRow lo eCt.ty eCt.sz V l.length cs)
  (hk:∀ (i:Nat) (x:Ct),l[i]?=some x→(∀ (j:Nat) (v:Value),(eCt.cells (qq i) x)[j]?=some v→cs[i * eCt.sz+j]?=some v)∧eCt.mem W (fun b=>lo≤b∧V.ownBlock≠some b) (qq i) x)
  (hx:eCt.mem W (fun b=>lo≤b∧V.ownBlock≠some b) q5 x)
  (ho1:w6.ownsRow lo eCt.ty eCt.sz v6 (l.length+1) (cs ++ eCt.cells q5 x)) (hg:W.grownBy w6 V.ownBlock) (hat:v6.ownBlock=V.ownBlock∨∃ b,v6.ownBlock=some b∧W.heap.size≤b):w6.heap[gO]?=some (cqO p nm v t q V)∧Chg (fun k=>lo≤k) W w6∧CqB w (w6.setCell ⟨gO,20,none⟩ v6) g gO lo p nm v t q v6 (l ++ [x]):=by
 have far:∀ k,k<lo→some k≠V.ownBlock:=fun k hk e=>by have:=own_base ho k e.symm;omega
 have hfar:=h.far
 have hglt:=h.glt
 have hlof:=h.lof
 have hlos:=h.los
 have hch:Chg (fun k=>lo≤k) W w6:=⟨hg.os,hg.tape,hg.output,hg.size,fun i hi hn=>hg.block i hi (far i (by omega))⟩
 have hc:=chg_set w6 gO 20 v6
 have hout:=(hch.block _ (blk_lt h.out) (by omega)).trans h.out
 have hkids:=RowG.push (E:=eCt) ho hk hx ho1 hg hat
 refine ⟨hout,hch,blk_put hout 20 _ rfl,(hc.block _ (Nat.lt_of_lt_of_le (blk_lt h.res) hch.size) (by omega)).trans ((hch.block _ (blk_lt h.res) (by omega)).trans h.res),?_,hfar,hglt,hlof,by have:=hch.size;have:=hc.size;omega,?_,h.nms,hkids.keep hc (fun k e=>by omega)⟩
 ·refine ⟨hc.os.trans (hch.os.trans h.chg.os),hc.tape.trans (hch.tape.trans h.chg.tape),hc.output.trans (hch.output.trans h.chg.output),Nat.le_trans h.chg.size (Nat.le_trans hch.size hc.size),fun i hi hs=>?_⟩
  rw [hc.block i (Nat.lt_of_lt_of_le hi (Nat.le_trans h.chg.size hch.size)) (by omega),hch.block i (Nat.lt_of_lt_of_le hi h.chg.size) (by omega),h.chg.block i hi hs]
 ·refine (TmS.same (h.ty.same fun k hk hz=>hch.block k hz (by have:=hk.2.2;omega)) fun k hk hz=>hc.block k hz hk.2.1)
end Go.Proofs.Ytcgkeolgflphiaa

namespace Go.Proofs.Ytcgkeolgflphiaa
open Go.RowKit Go.Proofs.YtcgkeolgflphiaaW.PrintWords Go.RegionInvYtcgkeolgflphiaa

set_option maxRecDepth 100000 in
set_option maxHeartbeats 8000000 in
theorem rdecl_any (g:Nat) (s:Except Int (List Int)) (w:World) (h:RR w g s) :
  Calls Try.prog 44 #[.pointer (some ⟨g,0,none⟩)] w (AnyDq w g (nextR s dcR)):=by
 have HGL:=Ak h.lt
 have HM0:=Ak (h.below (below_alloc (Below.refl _ _) dzO))
 have HX0:=Ak (blk_new w dzO)
 have HC0:=Ak (show Chg (fun k=>k=g) w (w.alloc dzO) from Chg.of_below (below_alloc (Below.refl w.heap.size w) dzO))
 have hk8:=byteS_u8 h.bytes
 obtain ⟨k,hk⟩:∃ k,k=(byteS s).1:=⟨_,rfl⟩
 rw [← hk] at hk8
 have HK:=Ak hk
 clear h hk
 go_enter Try.func44,Try.ntmps44
 go_upto_region 1 with (fail)
 obtain ⟨W0,hW0⟩:∃ W0,W0=w.alloc dzO:=⟨_,rfl⟩
 rw [← hW0] at HM0 HX0 HC0 ⊢
 clear hW0
 go_upto_region 2 with (first
  | (go_at_call 69;go_must (refine (rbyte_any g s _ HM0.out).mono ?_;rintro e w1 ⟨rfl,hc,hst⟩;rw [← HK.out];have HX1:=Ak ((hc.block _ (blk_lt HX0.out) (by have:=HGL.out;omega)).trans HX0.out);have HC1:=Ak (chg_trans HC0.out hc);have HST:=Ak hst;clear hc hst))
  | (refine wpList_store_row rfl 30 _ _ rfl w1.heap.size #[.int .i64 k,.string ⟨#[]⟩,.int .i64 0,.int .i64 0,.int .i64 0,.string ⟨#[]⟩,.int .i64 0,.int .i64 0,.slice none 0 0,.slice none 0 0,.slice none 0 0,.int .i64 0,.int .i64 0,.string ⟨#[]⟩,.int .i64 0,.int .i64 0,.slice none 0 0,.slice none 0 0,.slice none 0 0,.int .i64 0,.slice none 0 0] rfl rfl 30 #[.int .i64 0,.string ⟨#[]⟩,.int .i64 0,.int .i64 0,.int .i64 0,.string ⟨#[]⟩,.int .i64 0,.int .i64 0,.slice none 0 0,.slice none 0 0,.slice none 0 0,.int .i64 0,.int .i64 0,.string ⟨#[]⟩,.int .i64 0,.int .i64 0,.slice none 0 0,.slice none 0 0,.slice none 0 0,.int .i64 0,.slice none 0 0] (blk_new _ _) (by kernel_rfl) rfl (all_one (l:=[.int .i64 k,.string ⟨#[]⟩,.int .i64 0,.int .i64 0,.int .i64 0,.string ⟨#[]⟩,.int .i64 0,.int .i64 0,.slice none 0 0,.slice none 0 0,.slice none 0 0,.int .i64 0,.int .i64 0,.string ⟨#[]⟩,.int .i64 0,.int .i64 0,.slice none 0 0,.slice none 0 0,.slice none 0 0,.int .i64 0,.slice none 0 0]) rfl) ?_))
 have HB2:=Ak (dcBx_new (P:=pl21 pl0) (d:=⟨k,⟨#[]⟩,0,noT,noT,0,[]⟩) (B:=w.heap.size+1) HGL.out HC1.out HX1.out ⟨noT_in _ _,noT_in _ _,⟨Nat.le_refl _,Nat.zero_le _⟩,(by decide:(⟨#[]⟩:ByteArray).size≤140737488355328),fun i c h=>by simp at h⟩ (Nat.lt_succ_self _))
 have HM2:=Ak (HST.out.below (dc_boxed w1 (pl21 pl0) ⟨k,⟨#[]⟩,0,noT,noT,0,[]⟩).2)
 obtain ⟨gO,hgO⟩:∃ gO,gO=w1.heap.size:=⟨_,rfl⟩
 obtain ⟨W2,hW2⟩:∃ W2,W2=(w1.alloc (.cells #[.int .i64 0,.string ⟨#[]⟩,.int .i64 0,.int .i64 0,.int .i64 0,.string ⟨#[]⟩,.int .i64 0,.int .i64 0,.slice none 0 0,.slice none 0 0,.slice none 0 0,.int .i64 0,.int .i64 0,.string ⟨#[]⟩,.int .i64 0,.int .i64 0,.slice none 0 0,.slice none 0 0,.slice none 0 0,.int .i64 0,.slice none 0 0] 30 (0,0))).setRow w1.heap.size #[.int .i64 k,.string ⟨#[]⟩,.int .i64 0,.int .i64 0,.int .i64 0,.string ⟨#[]⟩,.int .i64 0,.int .i64 0,.slice none 0 0,.slice none 0 0,.slice none 0 0,.int .i64 0,.int .i64 0,.string ⟨#[]⟩,.int .i64 0,.int .i64 0,.slice none 0 0,.slice none 0 0,.slice none 0 0,.int .i64 0,.slice none 0 0]:=⟨_,rfl⟩
 rw [← hgO] at hW2 HB2 HM2 ⊢
 rw [← hW2]
 replace HB2:Aside0 (DcBx w W2 g gO (pl21 pl0) ⟨k,⟨#[]⟩,0,noT,noT,0,[]⟩):=by rw [hW2];exact HB2
 replace HM2:Aside0 (RR W2 g (byteS s).2):=by rw [hW2];exact HM2
 clear hgO hW2 HST HC1 HX1 HM0 HX0 HC0
 obtain ⟨s1,hs1⟩:∃ s1,s1=(byteS s).2:=⟨_,rfl⟩
 rw [← hs1] at HM2
 have HS1:=Ak hs1
 clear hs1
 (try simp only [Act.put,List.setIfInBounds_toArray,List.set_cons_succ,List.set_cons_zero])
 go_cut [26] (fun u w5=>u=.bool (badB 3 s1 k)∧w5=W2)
 case first =>
  obtain ⟨A3,n3,c3,e3,hg3,hbx3⟩:=HM2.out.box
  obtain ⟨c0,c1,-,-⟩:=row2t hg3
  have d0:W2.cell? ⟨gO,0,none⟩=some (.int .i64 k):=by rw [cell_of_row _ _ _ _ _ _ HB2.out.out];rfl
  clear hg3
  cases s1 with
  | error er =>
   obtain ⟨rfl,hne⟩:=hbx3
   have he:(e3 == 0)=false:=by simp [hne]
   clear hne
   go_wp2
   go_meet
   case rel=>exact ⟨rfl,rfl⟩
  | ok ys =>
   obtain ⟨rfl,-⟩:=hbx3
   by_cases k1:k<1
   ·have hk1:decide (k<1)=true:=decide_eq_true k1
    have HB:=Ak (show badB 3 (.ok ys) k=true from decide_eq_true (.inl k1))
    clear k1
    go_wp2
    go_meet
    case rel=>exact ⟨by rw [HB.out],rfl⟩
   ·by_cases k4:3<k
    ·have hk1:decide (k<1)=false:=decide_eq_false k1
     have hk4:decide (3<k)=true:=decide_eq_true k4
     have HB:=Ak (show badB 3 (.ok ys) k=true from decide_eq_true (.inr k4))
     clear k1 k4
     go_wp2
     go_meet
     case rel=>exact ⟨by rw [HB.out],rfl⟩
    ·have hk1:decide (k<1)=false:=decide_eq_false k1
     have hk4:decide (3<k)=false:=decide_eq_false k4
     have HB:=Ak (show badB 3 (.ok ys) k=false from decide_eq_false (by omega))
     clear k1 k4
     go_wp2
     go_meet
     case rel=>exact ⟨by rw [HB.out],rfl⟩
 case rest =>
  obtain ⟨rfl,rfl⟩:=hcut
  go_upto_if 26 with (fail)
  go_cut [] (fun w5=>Aside0 (DcBx w w5 g gO (pl21 pl0) ⟨k,⟨#[]⟩,0,noT,noT,0,[]⟩)∧Aside0 (RR w5 g (kindS 3 s)))
  case first =>
   cases hb:badB 3 s1 k with
   | true =>
    have HB:=Ak hb
    clear hb
    go_wp2_with (go_at_call 70;go_must (refine (rfail_any g s1 4 _ HM2.out (by decide)).mono ?_;rintro e w5 ⟨rfl,hc,hst⟩;have HC5:=Ak hc;have HST5:=Ak hst;clear hc hst))
    go_meet
    case rel=>exact ⟨⟨HB2.out.reader HC5.out⟩,⟨by unfold kindS;rw [← HS1.out,← HK.out,if_pos HB.out];exact HST5.out⟩⟩
   | false =>
    have HB:=Ak hb
    clear hb
    go_wp2
    go_meet
    case rel=>exact ⟨HB2,⟨by unfold kindS;rw [← HS1.out,← HK.out,HB.out,if_neg (by simp)];exact HM2.out⟩⟩
  case rest =>
   clear HB2 HM2
   obtain ⟨HB2,HM2⟩:=hcut
   obtain ⟨s3,hs3⟩:∃ s3,s3=kindS 3 s:=⟨_,rfl⟩
   rw [← hs3] at HM2
   obtain ⟨A5,n5,c5,e5,hg5,hbx5⟩:=HM2.out.box
   obtain ⟨-,c1,-,-⟩:=row2t hg5
   clear hg5
   cases s3 with
   | error er =>
    obtain ⟨rfl,hne⟩:=hbx5
    have he:(e5 != 0)=true:=by simp [hne]
    have HE:=Ak (dq_err hs3.symm)
    obtain ⟨P,d,HBP⟩:∃ P d,Aside0 (DcBx w wc g gO P d):=⟨_,_,HB2⟩
    clear hne hs3 HB2
    go_wp2_with (first
     | (refine wpList_load_row rfl 30 _ rfl gO rfl 30 _ (0,0) _ HBP.out.out Try.underlying30 rfl (by kernel_rfl) ?_)
     | (refine wpList_store_row rfl 30 _ _ rfl w.heap.size #[.int .i64 d.kind,.string d.nm,.int .i64 d.vars,.int .i64 d.ty.kind,.int .i64 d.ty.num,.string d.ty.name,.int .i64 d.ty.lv.kind,.int .i64 d.ty.lv.num,.slice P.pt.A d.ty.lv.kids.length P.pt.c,.slice P.pt.B d.ty.ls.length P.pt.d,.slice P.pt.K d.ty.kids.length P.pt.e,.int .i64 d.val.kind,.int .i64 d.val.num,.string d.val.name,.int .i64 d.val.lv.kind,.int .i64 d.val.lv.num,.slice P.pv.A d.val.lv.kids.length P.pv.c,.slice P.pv.B d.val.ls.length P.pv.d,.slice P.pv.K d.val.kids.length P.pv.e,.int .i64 d.params,.slice P.C d.cs.length P.e] rfl rfl 30 #[.int .i64 0,.string ⟨#[]⟩,.int .i64 0,.int .i64 0,.int .i64 0,.string ⟨#[]⟩,.int .i64 0,.int .i64 0,.slice none 0 0,.slice none 0 0,.slice none 0 0,.int .i64 0,.int .i64 0,.string ⟨#[]⟩,.int .i64 0,.int .i64 0,.slice none 0 0,.slice none 0 0,.slice none 0 0,.int .i64 0,.slice none 0 0] HBP.out.res (by kernel_rfl) rfl (all_one (l:=[.int .i64 d.kind,.string d.nm,.int .i64 d.vars,.int .i64 d.ty.kind,.int .i64 d.ty.num,.string d.ty.name,.int .i64 d.ty.lv.kind,.int .i64 d.ty.lv.num,.slice P.pt.A d.ty.lv.kids.length P.pt.c,.slice P.pt.B d.ty.ls.length P.pt.d,.slice P.pt.K d.ty.kids.length P.pt.e,.int .i64 d.val.kind,.int .i64 d.val.num,.string d.val.name,.int .i64 d.val.lv.kind,.int .i64 d.val.lv.num,.slice P.pv.A d.val.lv.kids.length P.pv.c,.slice P.pv.B d.val.ls.length P.pv.d,.slice P.pv.K d.val.kids.length P.pv.e,.int .i64 d.params,.slice P.C d.cs.length P.e]) rfl) ?_))
    refine bodyPost_ret (results_c rfl _ _ w.heap.size 30 #[.int .i64 d.kind,.string d.nm,.int .i64 d.vars,.int .i64 d.ty.kind,.int .i64 d.ty.num,.string d.ty.name,.int .i64 d.ty.lv.kind,.int .i64 d.ty.lv.num,.slice P.pt.A d.ty.lv.kids.length P.pt.c,.slice P.pt.B d.ty.ls.length P.pt.d,.slice P.pt.K d.ty.kids.length P.pt.e,.int .i64 d.val.kind,.int .i64 d.val.num,.string d.val.name,.int .i64 d.val.lv.kind,.int .i64 d.val.lv.num,.slice P.pv.A d.val.lv.kids.length P.pv.c,.slice P.pv.B d.val.ls.length P.pv.d,.slice P.pv.K d.val.kids.length P.pv.e,.int .i64 d.params,.slice P.C d.cs.length P.e] (0,0) _ rfl (setRow_heap wc w.heap.size _ _ _ _ HBP.out.res) Try.underlying30 rfl (by kernel_rfl)) rfl ?_
    exact dq_fin HBP.out (by rw [HE.out];exact HM2.out) (by rw [HE.out];trivial)
   | ok r =>
    obtain ⟨rfl,-⟩:=hbx5
    obtain ⟨xs,hxs,hK⟩:=kindS_ok hs3.symm
    rw [← HK.out] at hK
    have hk:=(kind_put hK).2
    have HR1:=Ak (show R1 s=.ok (k,r) by rw [hxs];exact hK)
    have HR2:=Ak (show R2 s=nameR r by unfold R2;rw [HR1.out];rfl)
    clear hs3 hK hxs
    obtain ⟨⟨-,d1,-⟩,-,z1,-⟩:=row21t HB2.out.out
    go_upto_region 7 with (go_at_call 71;go_must (refine (refName_ok g r _ HM2.out).mono ?_;rintro e w6 ⟨nm,rfl,hsz,hc,hst,hv⟩;rw [← HR2.out] at hst hv;have HB6:=Ak (HB2.out.reader hc);have HSZ:=Ak hsz;have HST:=Ak hst;have HV2:=Ak hv;clear hsz hc hst hv d1 z1;obtain ⟨⟨-,d1,-⟩,-,z1,-⟩:=row21t HB6.out.out))
    have HB3:=Ak (HB6.out.upd (P':=pl21 pl0) (d':=⟨k,nm,0,noT,noT,0,[]⟩) (chg_set w6 gO 1 (.string nm)) (blk_put HB6.out.out 1 _ rfl) ⟨HB6.out.mem.ty,HB6.out.mem.val,HB6.out.mem.len,HSZ.out,fun i c h=>by simp at h⟩)
    have HM3:=Ak (HST.out.chg (S:=fun k=>k=gO) (fun k e=>by have:=HB6.out.far;have:=HB6.out.glt;omega) (chg_set w6 gO 1 (.string nm)))
    obtain ⟨W3,hW3⟩:∃ W3,W3=w6.setCell ⟨gO,1,none⟩ (.string nm):=⟨_,rfl⟩
    rw [← hW3] at HB3 HM3 ⊢
    clear hW3 d1 z1 c1 HB6 HST
    obtain ⟨vv,hvv⟩:∃ vv,vv=okNum (R3 s):=⟨_,rfl⟩
    have HV3:=Ak (show valIs vv (R3 s) by rw [hvv];exact valIs_num _)
    have HVV:=Ak hvv
    clear hvv
    go_upto_region 8 with (go_at_call 72;go_must (refine (rnumber_any g _ _ HM3.out).mono ?_;rintro e w6 ⟨rfl,hc,hst⟩;rw [show okNum (nextR (restR (R2 s)) numR)=vv from HVV.out.symm];have HB6:=Ak (HB3.out.reader hc);have HST:=Ak (show RR w6 g (restR (R3 s)) from hst);clear hc hst;obtain ⟨⟨-,-,d1,-⟩,-,-,z1,-⟩:=row21t HB6.out.out))
    have HB4:=Ak (HB6.out.upd (P':=pl21 pl0) (d':=⟨k,nm,vv,noT,noT,0,[]⟩) (chg_set w6 gO 2 (.int .i64 vv)) (blk_put HB6.out.out 2 _ rfl) ⟨HB6.out.mem.ty,HB6.out.mem.val,HB6.out.mem.len,HSZ.out,fun i c h=>by simp at h⟩)
    have HM4:=Ak (HST.out.chg (S:=fun k=>k=gO) (fun k e=>by have:=HB6.out.far;have:=HB6.out.glt;omega) (chg_set w6 gO 2 (.int .i64 vv)))
    obtain ⟨W4,hW4⟩:∃ W4,W4=w6.setCell ⟨gO,2,none⟩ (.int .i64 vv):=⟨_,rfl⟩
    rw [← hW4] at HB4 HM4 ⊢
    clear hW4 d1 z1 HB6 HST HB3 HM3
    go_upto_region 9 with (go_at_call 73;go_must (refine (rwhole_any g _ _ HM4.out).mono ?_;rintro e w6 ⟨p5,t5,rfl,hl5,hc,hst,hv⟩;have HB6:=Ak (HB4.out.reader hc);have HL5:=Ak hl5;have HST:=Ak (show RR w6 g (restR (R4 s)) from hst);have HV5:=Ak (show valIs t5 (R4 s) from hv);clear hl5 hc hst hv;simp only [tmV];obtain ⟨⟨-,-,-,d3,d4,d5,d6,d7,d8,d9,d10⟩,-,-,-,z3,z4,z5,z6,z7,z8,z9,z10⟩:=row21t HB6.out.out))
    have hgo4:=blk_lt HB4.out.out
    have HB7:=Ak (HB6.out.upd (P':=pl21 p5) (d':=⟨k,nm,vv,t5,noT,0,[]⟩) (chg_set21t w6 gO (.int .i64 t5.kind) (.int .i64 t5.num) (.string t5.name) (.int .i64 t5.lv.kind) (.int .i64 t5.lv.num) (.slice p5.A t5.lv.kids.length p5.c) (.slice p5.B t5.ls.length p5.d) (.slice p5.K t5.kids.length p5.e)) (set21t HB6.out.out) ⟨HL5.out.mono fun k hk _=>⟨by have:=HB6.out.far;omega,by omega⟩,HB6.out.mem.val,HB6.out.mem.len,HSZ.out,fun i c h=>by simp at h⟩)
    have HM7:=Ak (HST.out.chg (S:=fun k=>k=gO) (fun k e=>by have:=HB6.out.far;have:=HB6.out.glt;omega) (chg_set21t w6 gO (.int .i64 t5.kind) (.int .i64 t5.num) (.string t5.name) (.int .i64 t5.lv.kind) (.int .i64 t5.lv.num) (.slice p5.A t5.lv.kids.length p5.c) (.slice p5.B t5.ls.length p5.d) (.slice p5.K t5.kids.length p5.e)))
    obtain ⟨W7,hW7⟩:∃ W7,W7=((((((((w6.setCell ⟨gO,3,none⟩ (.int .i64 t5.kind)).setCell ⟨gO,4,none⟩ (.int .i64 t5.num)).setCell ⟨gO,5,none⟩ (.string t5.name)).setCell ⟨gO,6,none⟩ (.int .i64 t5.lv.kind)).setCell ⟨gO,7,none⟩ (.int .i64 t5.lv.num)).setCell ⟨gO,8,none⟩ (.slice p5.A t5.lv.kids.length p5.c)).setCell ⟨gO,9,none⟩ (.slice p5.B t5.ls.length p5.d)).setCell ⟨gO,10,none⟩ (.slice p5.K t5.kids.length p5.e)):=⟨_,rfl⟩
    rw [← hW7] at HB7 HM7 ⊢
    clear hW7 d3 d4 d5 d6 d7 d8 d9 d10 z3 z4 z5 z6 z7 z8 z9 z10 HB6 HST HB4 HM4 HL5
    have HCH:=Ak (dc_chain (s:=s) (k:=k) (v:=vv) (nm:=nm) (t:=t5) (by rw [HR1.out];rfl) HV2.out HV3.out HV5.out)
    have d0:W7.cell? ⟨gO,0,none⟩=some (.int .i64 k):=by rw [cell_of_row _ _ _ _ _ _ HB7.out.out];rfl
    go_upto_block 0 with (fail)
    go_cut [] (fun w8=>∃ P d,Aside0 (DcBx w w8 g gO P d)∧Aside0 (RR w8 g (restR (nextR s dcR)))∧Aside0 (valIs d (nextR s dcR)))
    case first =>
     by_cases k2:k=2
     ·subst k2
      go_wp2_with (go_at_call 73;go_must (refine (rwhole_any g _ _ HM7.out).mono ?_;rintro e w7 ⟨p7,t7,rfl,hl7,hc7,hm7,hv7⟩;have HB8:=Ak (HB7.out.reader hc7);have HL7:=Ak hl7;have HM8:=Ak hm7;have HV7:=Ak hv7;clear hl7 hc7 hm7 hv7;simp only [tmV];obtain ⟨⟨b11,b12,b13,b14,b15,b16,b17,b18,-⟩,z11,z12,z13,z14,z15,z16,z17,z18,-⟩:=row21v HB8.out.out))
      go_meet
      case rel =>
       have hf:=HB8.out.far
       have hg:=HB8.out.glt
       have ho:=blk_lt HB7.out.out
       have ha:=aft_def (nm:=nm) (v:=vv) (t:=t5) (R:=R4 s) HV7.out
       refine ⟨⟨p5,p7,none,0,fun _=>default⟩,⟨2,nm,vv,t5,t7,0,[]⟩,⟨HB8.out.upd (chg_set21v _ _ _ _ _ _ _ _ _ _) (set21v HB8.out.out) ⟨HB8.out.mem.ty,HL7.out.mono fun k hk _=>⟨by omega,by omega⟩,⟨Nat.le_refl _,Nat.zero_le _⟩,HSZ.out,fun i c h=>by simp at h⟩⟩,⟨?_⟩,⟨?_⟩⟩
       ·rw [HCH.out,ha.1];exact HM8.out.chg (S:=fun k=>k=gO) (fun k e=>by omega) (chg_set21v _ _ _ _ _ _ _ _ _ _)
       ·rw [HCH.out];exact ha.2
     ·have hk2:(k == 2)=false:=by simp [k2]
      by_cases k3:k=3
      ·subst k3
       obtain ⟨q7,hq7⟩:∃ q7,q7=okNum (nextR (restR (R4 s)) numR):=⟨_,rfl⟩
       have HV7:=Ak (show valIs q7 (nextR (restR (R4 s)) numR) by rw [hq7];exact valIs_num _)
       have HQ7:=Ak hq7
       clear hq7
       go_upto_region 14 with (go_at_call 72;go_must (refine (rnumber_any g _ _ HM7.out).mono ?_;rintro e w7 ⟨rfl,hc7,hm7⟩;rw [← HQ7.out];have HB8:=Ak (HB7.out.reader hc7);have HM8:=Ak hm7;clear hc7 hm7;obtain ⟨⟨-,-,-,-,-,-,-,-,b19,-⟩,-,-,-,-,-,-,-,-,z19,-⟩:=row21v HB8.out.out))
       have HB9:=Ak (HB8.out.upd (P':=pl21 p5) (d':=⟨3,nm,vv,t5,noT,q7,[]⟩) (chg_set w7 gO 19 (.int .i64 q7)) (blk_put HB8.out.out 19 _ rfl) ⟨HB8.out.mem.ty,HB8.out.mem.val,HB8.out.mem.len,HSZ.out,fun i c h=>by simp at h⟩)
       have HM9:=Ak (HM8.out.chg (S:=fun k=>k=gO) (fun k e=>by have:=HB8.out.far;have:=HB8.out.glt;omega) (chg_set w7 gO 19 (.int .i64 q7)))
       obtain ⟨W8,hW8⟩:∃ W8,W8=w7.setCell ⟨gO,19,none⟩ (.int .i64 q7):=⟨_,rfl⟩
       rw [← hW8] at HB9 HM9 ⊢
       clear hW8 b19 z19 HB8 HM8
       obtain ⟨s9,hs9⟩:∃ s9,s9=restR (nextR (restR (R4 s)) numR):=⟨_,rfl⟩
       rw [← hs9] at HM9
       obtain ⟨Q1,hQ1⟩:∃ Q1,Q1=nextR s9 (rNumR 8 18):=⟨_,rfl⟩
       have HL1:=Ak (manyQ_list (f:=ctR) hQ1)
       have HQ1:=Ak hQ1
       have HS9:=Ak hs9
       have hnb:=okNum_bound (over:=18) s9 (most:=8) (by decide) HM9.out.bytes
       rw [← hQ1] at hnb
       obtain ⟨nn,hnn⟩:∃ nn:Nat,(nn:Int)=okNum Q1:=⟨(okNum Q1).toNat,by omega⟩
       have HNQ:=Ak hnn
       have hn6:nn≤8:=by omega
       have HCB:=Ak (cqB_start HB9.out)
       obtain ⟨lo,hlo⟩:∃ lo,lo=W8.heap.size:=⟨_,rfl⟩
       rw [← hlo] at HCB
       clear hQ1 hnb hnn hs9 hlo HB9
       go_upto_block 1 with (go_at_call 50;go_must (refine (rNumber_any g _ 8 18 _ HM9.out (by decide) (by decide) (by decide) (by decide) (by decide)).mono ?_;rintro e w8 ⟨rfl,hc8,hst8⟩;rw [← HQ1.out,← HNQ.out];have HCB8:=Ak (HCB.out.reader hc8);have HST8:=Ak (show RR w8 g (restR Q1) by rw [HQ1.out];exact hst8);clear hc8 hst8))
       clear HCB HM9
       go_wp2
       go_loopw [63] (fun i wr=>∃ (j:Nat) (V:Value) (l:List Ct),i=.int .u64 j∧j≤nn∧l.length≤j∧Aside0 (j<nn→∃ rj,manyQ ctR Q1 j=.ok (l,rj))∧Aside0 (CqB w wr g gO lo p5 nm vv t5 q7 V l)∧Aside0 (RR wr g (restR (manyQ ctR Q1 j)))∧Aside0 (valIs l (manyQ ctR Q1 j))) (fun i _=>nn - (intOf i).toNat)
       case atStart=>exact ⟨0,_,[],rfl,Nat.zero_le _,Nat.le_refl _,⟨fun h=>by cases hr:Q1 with | error e=>rw [hr] at HNQ;have:=HNQ.out;simp only [okNum] at this;omega | ok x=>exact ⟨_,rfl⟩⟩,HCB8,⟨by rw [(manyQ_0 ctR Q1).1];exact HST8.out⟩,⟨(manyQ_0 ctR Q1).2⟩⟩
       case round =>
        obtain ⟨j,V,l,rfl,hj,hlj,HOK,HL,HRR,HV⟩:=hrel
        by_cases hlt:j<nn
        ·obtain ⟨rj,hrj⟩:=HOK.out hlt
         have HRJ:=Ak hrj
         have hrs:=HRR.out
         rw [hrj] at hrs
         have HRS:=Ak (show RR wr g (.ok rj) from hrs)
         clear hrj hrs
         go_upto_region 17 with (go_at_call 71;go_must (refine (refName_ok g rj _ HRS.out).mono ?_;rintro e w6 ⟨k3,rfl,hsz,hc,hst,hv⟩;have HC6:=Ak hc;have HSZ6:=Ak hsz;have HST6:=Ak hst;have HV6:=Ak (show valIs k3 (nextR (.ok rj) nameR) from hv);clear hsz hc hst hv))
         have HCB6:=Ak (HL.out.reader HC6.out)
         have HX7:=Ak (blk_new w6 (.cells #[.string k3,.int .i64 0,.int .i64 0,.string ⟨#[]⟩,.int .i64 0,.int .i64 0,.slice none 0 0,.slice none 0 0,.slice none 0 0] 63 (0,0)))
         have HA7:=Ak (show Chg (fun k=>k=g) w6 (w6.alloc (.cells #[.string k3,.int .i64 0,.int .i64 0,.string ⟨#[]⟩,.int .i64 0,.int .i64 0,.slice none 0 0,.slice none 0 0,.slice none 0 0] 63 (0,0))) from Chg.of_below (below_alloc (Below.refl w6.heap.size w6) (.cells #[.string k3,.int .i64 0,.int .i64 0,.string ⟨#[]⟩,.int .i64 0,.int .i64 0,.slice none 0 0,.slice none 0 0,.slice none 0 0] 63 (0,0))))
         have HR7:=Ak (HST6.out.below (below_alloc (Below.refl _ _) (.cells #[.string k3,.int .i64 0,.int .i64 0,.string ⟨#[]⟩,.int .i64 0,.int .i64 0,.slice none 0 0,.slice none 0 0,.slice none 0 0] 63 (0,0))))
         have HZ7:=Ak (show (w6.alloc (.cells #[.string k3,.int .i64 0,.int .i64 0,.string ⟨#[]⟩,.int .i64 0,.int .i64 0,.slice none 0 0,.slice none 0 0,.slice none 0 0] 63 (0,0))).heap.size=w6.heap.size+1 by simp)
         obtain ⟨gc,hgc⟩:∃ gc,gc=w6.heap.size:=⟨_,rfl⟩
         obtain ⟨W6,hW6⟩:∃ W6,W6=w6.alloc (.cells #[.string k3,.int .i64 0,.int .i64 0,.string ⟨#[]⟩,.int .i64 0,.int .i64 0,.slice none 0 0,.slice none 0 0,.slice none 0 0] 63 (0,0)):=⟨_,rfl⟩
         rw [← hW6] at HX7 HA7 HR7 HZ7 ⊢
         rw [← hgc] at HX7 HZ7 ⊢
         have HGC:=Ak hgc
         have hgcg:gc≠g:=by have:=HCB6.out.far;have:=HCB6.out.glt;have:=HCB6.out.lof;have:=HCB6.out.los;omega
         have HNG:=Ak hgcg
         have HLG:=Ak (show g<gc by have:=HCB6.out.far;have:=HCB6.out.glt;have:=HCB6.out.lof;have:=HCB6.out.los;omega)
         clear hW6 hgc hgcg HST6
         go_upto_region 18 with (go_at_call 73;go_must (refine (rwhole_any g _ _ HR7.out).mono ?_;rintro e w8 ⟨p8,t8,rfl,hl8,hc8,hm8,hv8⟩;have HX8:=Ak ((hc8.block _ (blk_lt HX7.out) (fun e=>HNG.out e)).trans HX7.out);have HC8:=Ak hc8;have HL8:=Ak hl8;have HM8:=Ak hm8;have HV8:=Ak hv8;clear hl8 hc8 hm8 hv8;simp only [tmV];obtain ⟨⟨-,e1,e2,e3,e4,e5,e6,e7,e8⟩,-,x1,x2,x3,x4,x5,x6,x7,x8⟩:=row9t HX8.out))
         have HC9:=Ak (chg_set9t w8 gc (.int .i64 t8.kind) (.int .i64 t8.num) (.string t8.name) (.int .i64 t8.lv.kind) (.int .i64 t8.lv.num) (.slice p8.A t8.lv.kids.length p8.c) (.slice p8.B t8.ls.length p8.d) (.slice p8.K t8.kids.length p8.e))
         have HX9:=Ak (set9t (a1:=.int .i64 t8.kind) (a2:=.int .i64 t8.num) (a3:=.string t8.name) (a4:=.int .i64 t8.lv.kind) (a5:=.int .i64 t8.lv.num) (a6:=.slice p8.A t8.lv.kids.length p8.c) (a7:=.slice p8.B t8.ls.length p8.d) (a8:=.slice p8.K t8.kids.length p8.e) HX8.out)
         obtain ⟨W9,hW9⟩:∃ W9,W9=((((((((w8.setCell ⟨gc,1,none⟩ (.int .i64 t8.kind)).setCell ⟨gc,2,none⟩ (.int .i64 t8.num)).setCell ⟨gc,3,none⟩ (.string t8.name)).setCell ⟨gc,4,none⟩ (.int .i64 t8.lv.kind)).setCell ⟨gc,5,none⟩ (.int .i64 t8.lv.num)).setCell ⟨gc,6,none⟩ (.slice p8.A t8.lv.kids.length p8.c)).setCell ⟨gc,7,none⟩ (.slice p8.B t8.ls.length p8.d)).setCell ⟨gc,8,none⟩ (.slice p8.K t8.kids.length p8.e)):=⟨_,rfl⟩
         rw [← hW9] at HC9 HX9 ⊢
         clear hW9 e1 e2 e3 e4 e5 e6 e7 e8 x1 x2 x3 x4 x5 x6 x7 x8
         have HCB9:=Ak (HCB6.out.reader (chg_new (chg_trans HA7.out HC8.out) HC9.out (Nat.le_of_eq HGC.out.symm)))
         have HME9:=Ak (eCt.beside (p:=p8) (x:=(⟨k3,t8⟩:Ct)) HCB6.out.kids HCB6.out.los (w1:=W9) ⟨(HL8.out.same fun k hk hz=>HC9.out.block k hz (fun e=>by have:=HZ7.out;omega)).mono fun k hk _=>by have:=HZ7.out;have:=HGC.out;omega,HSZ6.out⟩)
         have HNX:=Ak (manyQ_next (f:=ctR) (x:=(⟨k3,t8⟩:Ct)) (W:=W9) (g:=g) HRJ.out (by rw [(ctR_chain (.ok rj)).1];exact HM8.out.chg (S:=fun k=>k=gc) (fun k e=>by have:=HLG.out;omega) HC9.out) ((ctR_chain (.ok rj)).2 k3 t8 HV6.out HV8.out))
         obtain ⟨cs,qq,hown,hcs⟩:=HCB9.out.kids
         have HOWN:=Ak hown
         have HCS:=Ak hcs
         have hl8:l.length<8:=by omega
         obtain ⟨⟨d0,d1,d2,d3,d4,d5,d6,d7,d8⟩,-⟩:=row9t HX9.out
         have b20:W9.cell? ⟨gO,20,none⟩=some V:=by rw [cell_of_row _ _ _ _ _ _ HCB9.out.out];rfl
         clear hown hcs HL HRR HV HOK HRS HCB6 HC6 HA7 HR7 HX7 HC8 HX8 HL8 HM8 HV8 HC9
         go_upto_region 19 with (at_builtin;go_must (refine print_append_cells (w0:=W9) lo rfl (.tmp 72) (.tmp 74) 28 63 _ 9 136 rfl Try.underlying28 infoCtD rfl (by decide) (by decide) V l.length cs [.string k3,.int .i64 t8.kind,.int .i64 t8.num,.string t8.name,.int .i64 t8.lv.kind,.int .i64 t8.lv.num,.slice p8.A t8.lv.kids.length p8.c,.slice p8.B t8.ls.length p8.d,.slice p8.K t8.kids.length p8.e] rfl rfl rfl (List.all_eq_true.1 rfl) HOWN.out (Below.refl _ _) HCB9.out.los (by omega) ?_;intro v3 w3 ho hb hg hat;obtain ⟨A6,c6,rfl⟩:=own_slice ho;have HP:=Ak (HCB9.out.push (x:=(⟨k3,t8⟩:Ct)) HOWN.out HCS.out HME9.out ho hg hat);have z20:=blk_frozen HP.out.1 20;have c20:w3.cell? ⟨gO,20,none⟩=some V:=(by rw [cell_of_row _ _ _ _ _ _ HP.out.1];rfl);clear ho hb hg hat))
         have HCB:=Ak HP.out.2.2
         have HRR:=Ak ((HNX.out.1.chg (S:=fun k=>lo≤k) (fun k hk=>by have:=HCB9.out.glt;have:=HCB9.out.far;have:=HCB9.out.lof;omega) HP.out.2.1).chg (S:=fun k=>k=gO) (fun k e=>by have:=HCB9.out.glt;have:=HCB9.out.far;omega) (chg_set w3 gO 20 (.slice A6 (l.length+1) c6)))
         have HV:=Ak HNX.out.2
         obtain ⟨W10,hW10⟩:∃ W10,W10=w3.setCell ⟨gO,20,none⟩ (.slice A6 (l.length+1) c6):=⟨_,rfl⟩
         rw [← hW10] at HCB HRR ⊢
         obtain ⟨l10,hl10⟩:∃ l10,l10=l ++ [(⟨k3,t8⟩:Ct)]:=⟨_,rfl⟩
         rw [← hl10] at HCB HV
         have hll:l10.length≤j+1:=by rw [hl10,List.length_append];simp;omega
         clear hW10 hl10 HP HNX HCB9 HME9 HOWN HCS HX9 z20 c20 b20 d0 d1 d2 d3 d4 d5 d6 d7 d8
         obtain ⟨v3,hv3⟩:∃ v3,v3=Value.slice A6 (l.length+1) c6:=⟨_,rfl⟩
         rw [← hv3] at HCB
         clear hv3
         obtain ⟨A8,n8,c8,e6,hg6,hbx6⟩:=HRR.out.box
         obtain ⟨-,b1,-,-⟩:=row2t hg6
         clear hg6
         cases hP:manyQ ctR Q1 (j+1) with
         | error er =>
          rw [hP] at hbx6
          obtain ⟨rfl,hne⟩:=hbx6
          have he:(e6 != 0)=true:=by simp [hne]
          have hst:=HRR.out
          rw [hP] at hst
          have HST9:=Ak (show RR _ g (.error e6) from hst)
          have HLL:=Ak (show nextR s9 (listR 8 ctR)=.error e6 by rw [HL1.out,← HNQ.out,Int.toNat_natCast];exact manyQ_stop hP (by omega))
          have HAI:=Ak (aft_ind (nm:=nm) (v:=vv) (t:=t5) (l:=l10) (R:=R4 s) HV7.out (by rw [← HS9.out,HLL.out];trivial))
          have HRE:=Ak (show restR (nextR s dcR)=.error e6 by rw [HCH.out,HAI.out.1,← HS9.out,HLL.out];rfl)
          obtain ⟨C9,e9,q9,hV9,hbx9⟩:=HCB.out.done
          obtain ⟨P,d,HBP⟩:∃ P d,Aside0 (DcBx w W10 g gO P d):=⟨_,_,⟨hbx9⟩⟩
          clear hne hP hst hbx9 hV9
          have HRQ:=Ak (show RR W10 g (restR (nextR s dcR)) by rw [HRE.out];exact HST9.out)
          go_wp2_with (first
           | (refine wpList_load_row rfl 30 _ rfl gO rfl 30 _ (0,0) _ HBP.out.out Try.underlying30 rfl (by kernel_rfl) ?_)
           | (refine wpList_store_row rfl 30 _ _ rfl w.heap.size #[.int .i64 d.kind,.string d.nm,.int .i64 d.vars,.int .i64 d.ty.kind,.int .i64 d.ty.num,.string d.ty.name,.int .i64 d.ty.lv.kind,.int .i64 d.ty.lv.num,.slice P.pt.A d.ty.lv.kids.length P.pt.c,.slice P.pt.B d.ty.ls.length P.pt.d,.slice P.pt.K d.ty.kids.length P.pt.e,.int .i64 d.val.kind,.int .i64 d.val.num,.string d.val.name,.int .i64 d.val.lv.kind,.int .i64 d.val.lv.num,.slice P.pv.A d.val.lv.kids.length P.pv.c,.slice P.pv.B d.val.ls.length P.pv.d,.slice P.pv.K d.val.kids.length P.pv.e,.int .i64 d.params,.slice P.C d.cs.length P.e] rfl rfl 30 #[.int .i64 0,.string ⟨#[]⟩,.int .i64 0,.int .i64 0,.int .i64 0,.string ⟨#[]⟩,.int .i64 0,.int .i64 0,.slice none 0 0,.slice none 0 0,.slice none 0 0,.int .i64 0,.int .i64 0,.string ⟨#[]⟩,.int .i64 0,.int .i64 0,.slice none 0 0,.slice none 0 0,.slice none 0 0,.int .i64 0,.slice none 0 0] HBP.out.res (by kernel_rfl) rfl (all_one (l:=[.int .i64 d.kind,.string d.nm,.int .i64 d.vars,.int .i64 d.ty.kind,.int .i64 d.ty.num,.string d.ty.name,.int .i64 d.ty.lv.kind,.int .i64 d.ty.lv.num,.slice P.pt.A d.ty.lv.kids.length P.pt.c,.slice P.pt.B d.ty.ls.length P.pt.d,.slice P.pt.K d.ty.kids.length P.pt.e,.int .i64 d.val.kind,.int .i64 d.val.num,.string d.val.name,.int .i64 d.val.lv.kind,.int .i64 d.val.lv.num,.slice P.pv.A d.val.lv.kids.length P.pv.c,.slice P.pv.B d.val.ls.length P.pv.d,.slice P.pv.K d.val.kids.length P.pv.e,.int .i64 d.params,.slice P.C d.cs.length P.e]) rfl) ?_))
          refine bodyPost_ret (results_c rfl _ _ w.heap.size 30 #[.int .i64 d.kind,.string d.nm,.int .i64 d.vars,.int .i64 d.ty.kind,.int .i64 d.ty.num,.string d.ty.name,.int .i64 d.ty.lv.kind,.int .i64 d.ty.lv.num,.slice P.pt.A d.ty.lv.kids.length P.pt.c,.slice P.pt.B d.ty.ls.length P.pt.d,.slice P.pt.K d.ty.kids.length P.pt.e,.int .i64 d.val.kind,.int .i64 d.val.num,.string d.val.name,.int .i64 d.val.lv.kind,.int .i64 d.val.lv.num,.slice P.pv.A d.val.lv.kids.length P.pv.c,.slice P.pv.B d.val.ls.length P.pv.d,.slice P.pv.K d.val.kids.length P.pv.e,.int .i64 d.params,.slice P.C d.cs.length P.e] (0,0) _ rfl (setRow_heap W10 w.heap.size _ _ _ _ HBP.out.res) Try.underlying30 rfl (by kernel_rfl)) rfl ?_
          exact dq_fin HBP.out HRQ.out (valIs_bad HRE.out)
         | ok x =>
          rw [hP] at hbx6
          obtain ⟨rfl,-⟩:=hbx6
          have HOK:=Ak (show j+1<nn→∃ rj,manyQ ctR Q1 (j+1)=.ok (l10,rj) from fun _=>⟨x.2,by have:=HV.out;rw [hP] at this ⊢;rw [show l10=x.1 from this]⟩)
          clear hP
          go_wp2
          go_roundw
          case rel=>exact ⟨j+1,v3,l10,by go_num,by omega,hll,HOK,HCB,HRR,HV⟩
          case measure=>(simp [intOf];try omega)
        ·obtain rfl:j=nn:=by omega
         have hlt':decide ((j:Int)<j)=false:=by simp
         obtain ⟨C9,e9,q9,hV9,hbx9⟩:=HL.out.done
         have HBX9:=Ak hbx9
         have HLL:=Ak (show nextR s9 (listR 8 ctR)=manyQ ctR Q1 j by rw [HL1.out,← HNQ.out,Int.toNat_natCast])
         have HAI:=Ak (aft_ind (nm:=nm) (v:=vv) (t:=t5) (l:=l) (R:=R4 s) HV7.out (by rw [← HS9.out,HLL.out];exact HV.out))
         clear hbx9 hV9
         go_wp2
         go_meet
         case rel=>exact ⟨_,_,HBX9,⟨by rw [HCH.out,HAI.out.1,← HS9.out,HLL.out];exact HRR.out⟩,⟨by rw [HCH.out];exact HAI.out.2⟩⟩
      ·have hk3:(k == 3)=false:=by simp [k3]
       have ha:=aft_ax (nm:=nm) (v:=vv) (t:=t5) (R:=R4 s) k2 k3
       have HA:=Ak ha
       clear ha k2 k3
       go_wp2
       go_meet
       case rel=>exact ⟨_,_,HB7,⟨by rw [HCH.out,HA.out.1];exact HM7.out⟩,⟨by rw [HCH.out];exact HA.out.2⟩⟩
    case rest =>
     obtain ⟨P,d,HB8,HM8,HV8⟩:=hcut
     go_wp2_with (first
      | (refine wpList_load_row rfl 30 _ rfl gO rfl 30 _ (0,0) _ HB8.out.out Try.underlying30 rfl (by kernel_rfl) ?_)
      | (refine wpList_store_row rfl 30 _ _ rfl w.heap.size #[.int .i64 d.kind,.string d.nm,.int .i64 d.vars,.int .i64 d.ty.kind,.int .i64 d.ty.num,.string d.ty.name,.int .i64 d.ty.lv.kind,.int .i64 d.ty.lv.num,.slice P.pt.A d.ty.lv.kids.length P.pt.c,.slice P.pt.B d.ty.ls.length P.pt.d,.slice P.pt.K d.ty.kids.length P.pt.e,.int .i64 d.val.kind,.int .i64 d.val.num,.string d.val.name,.int .i64 d.val.lv.kind,.int .i64 d.val.lv.num,.slice P.pv.A d.val.lv.kids.length P.pv.c,.slice P.pv.B d.val.ls.length P.pv.d,.slice P.pv.K d.val.kids.length P.pv.e,.int .i64 d.params,.slice P.C d.cs.length P.e] rfl rfl 30 #[.int .i64 0,.string ⟨#[]⟩,.int .i64 0,.int .i64 0,.int .i64 0,.string ⟨#[]⟩,.int .i64 0,.int .i64 0,.slice none 0 0,.slice none 0 0,.slice none 0 0,.int .i64 0,.int .i64 0,.string ⟨#[]⟩,.int .i64 0,.int .i64 0,.slice none 0 0,.slice none 0 0,.slice none 0 0,.int .i64 0,.slice none 0 0] HB8.out.res (by kernel_rfl) rfl (all_one (l:=[.int .i64 d.kind,.string d.nm,.int .i64 d.vars,.int .i64 d.ty.kind,.int .i64 d.ty.num,.string d.ty.name,.int .i64 d.ty.lv.kind,.int .i64 d.ty.lv.num,.slice P.pt.A d.ty.lv.kids.length P.pt.c,.slice P.pt.B d.ty.ls.length P.pt.d,.slice P.pt.K d.ty.kids.length P.pt.e,.int .i64 d.val.kind,.int .i64 d.val.num,.string d.val.name,.int .i64 d.val.lv.kind,.int .i64 d.val.lv.num,.slice P.pv.A d.val.lv.kids.length P.pv.c,.slice P.pv.B d.val.ls.length P.pv.d,.slice P.pv.K d.val.kids.length P.pv.e,.int .i64 d.params,.slice P.C d.cs.length P.e]) rfl) ?_))
     refine bodyPost_ret (results_c rfl _ _ w.heap.size 30 #[.int .i64 d.kind,.string d.nm,.int .i64 d.vars,.int .i64 d.ty.kind,.int .i64 d.ty.num,.string d.ty.name,.int .i64 d.ty.lv.kind,.int .i64 d.ty.lv.num,.slice P.pt.A d.ty.lv.kids.length P.pt.c,.slice P.pt.B d.ty.ls.length P.pt.d,.slice P.pt.K d.ty.kids.length P.pt.e,.int .i64 d.val.kind,.int .i64 d.val.num,.string d.val.name,.int .i64 d.val.lv.kind,.int .i64 d.val.lv.num,.slice P.pv.A d.val.lv.kids.length P.pv.c,.slice P.pv.B d.val.ls.length P.pv.d,.slice P.pv.K d.val.kids.length P.pv.e,.int .i64 d.params,.slice P.C d.cs.length P.e] (0,0) _ rfl (setRow_heap wc w.heap.size _ _ _ _ HB8.out.res) Try.underlying30 rfl (by kernel_rfl)) rfl ?_
     exact dq_fin HB8.out HM8.out HV8.out
end Go.Proofs.Ytcgkeolgflphiaa

namespace Go.Proofs.Ytcgkeolgflphiaa
open Go.RowKit Go.Proofs.YtcgkeolgflphiaaW.PrintWords Go.RegionInvYtcgkeolgflphiaa

theorem endS_err {α:Type} {R:Except Int (α × List Int)} {k:Int} (h:endR R=.error k):endS (restR R)=.error k:=by
 cases R with
 | error e=>cases h;rfl
 | ok y =>
  obtain ⟨x,r⟩:=y
  cases r with
  | nil=>unfold endR at h;simp at h
  | cons a r=>unfold endR at h;simp at h;subst h;rfl
theorem endS_ok {α:Type} {R:Except Int (α × List Int)} {x:α} (h:endR R=.ok x):R=.ok (x,[])∧endS (restR R)=.ok []:=by
 cases R with
 | error e=>cases h
 | ok y =>
  obtain ⟨z,r⟩:=y
  cases r with
  | nil=>unfold endR at h;simp at h;subst h;exact ⟨rfl,rfl⟩
  | cons a r=>unfold endR at h;simp at h
end Go.Proofs.Ytcgkeolgflphiaa

namespace Go.Proofs.Ytcgkeolgflphiaa
open Go.RowKit Go.Proofs.YtcgkeolgflphiaaW.PrintWords Go.RegionInvYtcgkeolgflphiaa Go.RegionEYtcgkeolgflphiaa
set_option linter.unusedVariables false

def rx18_ops:List Oper:=[
 { dst:=some 62,op:=Go.Op.move (Go.Operand.tmp 4),type:=71,pos:= "ref.go:508",after:=#[{ on:=5,ground:=Go.Ground.gcOnly Go.Departure.lateStores }],guard:=none },
 { dst:=some 63,op:=Go.Op.nilCheck (Go.Operand.tmp 62),type:=0,pos:= "ref.go:508",after:=#[{ on:=0,ground:=Go.Ground.data },{ on:=5,ground:=Go.Ground.gcOnly Go.Departure.lateStores }],guard:=none },
 { dst:=some 64,op:=Go.Op.fieldAddr 75 (Go.Operand.tmp 63) 0,type:=0,pos:= "ref.go:508",after:=#[{ on:=1,ground:=Go.Ground.data },{ on:=5,ground:=Go.Ground.gcOnly Go.Departure.lateStores }],guard:=none },
 { dst:=some 65,op:=Go.Op.fieldAddr 73 (Go.Operand.tmp 64) 1,type:=0,pos:= "ref.go:508",after:=#[{ on:=2,ground:=Go.Ground.data },{ on:=5,ground:=Go.Ground.gcOnly Go.Departure.lateStores }],guard:=none },
 { dst:=some 66,op:=Go.Op.load 32 (Go.Operand.tmp 65),type:=32,pos:= "ref.go:508",after:=#[{ on:=3,ground:=Go.Ground.data },{ on:=5,ground:=Go.Ground.gcOnly Go.Departure.lateStores }],guard:=none },
 { dst:=some 2,op:=Go.Op.assign (Go.Operand.const (Go.Value.slice none 0 0)),type:=42,pos:= "ref.go:508",after:=#[{ on:=0,ground:=Go.Ground.textOnly Go.Departure.lateStores },{ on:=1,ground:=Go.Ground.textOnly Go.Departure.lateStores },{ on:=2,ground:=Go.Ground.textOnly Go.Departure.lateStores },{ on:=3,ground:=Go.Ground.textOnly Go.Departure.lateStores },{ on:=4,ground:=Go.Ground.textOnly Go.Departure.lateStores }],guard:=none },
 { dst:=some 3,op:=Go.Op.assign (Go.Operand.tmp 66),type:=32,pos:= "ref.go:508",after:=#[{ on:=4,ground:=Go.Ground.data },{ on:=5,ground:=Go.Ground.chain },{ on:=0,ground:=Go.Ground.phase },{ on:=1,ground:=Go.Ground.phase },{ on:=2,ground:=Go.Ground.phase },{ on:=3,ground:=Go.Ground.phase },{ on:=4,ground:=Go.Ground.phase },{ on:=5,ground:=Go.Ground.phase }],guard:=none }]
def rx18_F (w0:World) (g n6 c6:Nat) (A6:Option Addr) (er:Int):Nat→(Nat→Value)→Value→World→(Nat→Prop)→Prop:=fun rix=>match rix with
 | 0=>fun _ v _ _=>v=.pointer (some ⟨g,0,none⟩)
 | 1=>fun _ v _ _=>v=.pointer (some ⟨g,0,none⟩)
 | 2=>fun _ v _ _=>v=.pointer (some ⟨g,0,none⟩)
 | 3=>fun _ v _ _=>v=.pointer (some ⟨g,1,none⟩)
 | 4=>fun _ v _ _=>v=.int .i64 er
 | 5=>fun _ v _ _=>v=.slice none 0 0
 | 6=>fun _ v _ _=>v=.int .i64 er
 | _=>fun _ _ _ _=>True
def rx18_C:Nat→List Nat:=fun rix=>match rix with
 | _=>[]
theorem rx18_nw4:nwB rx18_ops.toArray 4=true:=by kernel_rfl
set_option maxRecDepth 100000 in
set_option maxHeartbeats 8000000 in
theorem rx18_obs (w0:World) (g n6 c6:Nat) (A6:Option Addr) (er:Int) (hI:w0.heap[g]?=some (rrB A6 n6 c6 er)) (Q:Exit→Act→World→Prop) (a0:Act) (hi4:a0.tmps.getD 4 undef=.pointer (some ⟨g,0,none⟩)) :
  ObsE Try.prog rx18_ops.toArray Q (est2 0 0 (fun _=>False) (fun _=>False)) rx18_C (rx18_F w0 g n6 c6 A6 er) a0 w0 rx18_ops.toArray.toList 0:=by
 have nw4:=rx18_nw4
 refine ⟨?_,?_,?_,?_,?_,?_,?_,trivial⟩
 ·refine ⟨⟨fun τ=>stableE_det _,leans_not⟩,?_⟩
  intro a w O hk
  have e4:a.eval (.tmp 4)=.pointer (some ⟨g,0,none⟩):=(hk.init 4 (initialB_of_nw nw4)).trans hi4
  exact toE (ob_move rfl e4 (wanted_none rfl) rfl)
 ·refine ⟨⟨fun τ=>stableE_det _,leans_not⟩,?_⟩
  intro a w O hk
  have e62:a.eval (.tmp 62)=.pointer (some ⟨g,0,none⟩):=hk.fact 0 _ 62 rfl rfl rfl rfl
  exact obE_run (wanted_none rfl) (by unfold execOp;simp only [];rw [e62];go_simp) rfl
 ·refine ⟨⟨fun τ=>stableE_det _,leans_not⟩,?_⟩
  intro a w O hk
  have e63:a.eval (.tmp 63)=.pointer (some ⟨g,0,none⟩):=hk.fact 1 _ 63 rfl rfl rfl rfl
  exact obE_run (wanted_none rfl) (by unfold execOp;simp only [];rw [e63];go_simp) rfl
 ·refine ⟨⟨fun τ=>stableE_det _,leans_not⟩,?_⟩
  intro a w O hk
  have e64:a.eval (.tmp 64)=.pointer (some ⟨g,0,none⟩):=hk.fact 2 _ 64 rfl rfl rfl rfl
  exact obE_run (wanted_none rfl) (by unfold execOp;simp only [];rw [e64];go_simp) rfl
 ·refine ⟨⟨fun τ=>stableE_det _,leans_not⟩,?_⟩
  intro a w O hk
  have e65:a.eval (.tmp 65)=.pointer (some ⟨g,1,none⟩):=hk.fact 3 _ 65 rfl rfl rfl rfl
  have xI:=hk.world.still hI (fun ⟨_,h⟩=>h.elim And.right And.right)
  have c1:=(row2t xI).2.1
  exact obE_run (wanted_none rfl) (by unfold execOp;simp only [];rw [e65];go_simp) rfl
 ·refine ⟨⟨fun τ=>stableE_det _,leans_not⟩,?_⟩
  intro a w O hk
  exact toE (ob_assign rfl rfl (wanted_none rfl) rfl)
 ·refine ⟨⟨fun τ=>stableE_det _,leans_not⟩,?_⟩
  intro a w O hk
  have e66:a.eval (.tmp 66)=.int .i64 er:=hk.fact 4 _ 66 rfl rfl rfl rfl
  exact toE (ob_assign rfl e66 (wanted_none rfl) rfl)
set_option maxRecDepth 100000 in
set_option maxHeartbeats 8000000 in
theorem rx18_region {Q:Exit→Act→World→Prop} {id:Nat} (w0:World) (g n6 c6:Nat) (A6:Option Addr) (er:Int) {s0 s1 s2 s3 s5 s6 s7 s8 s9 s10 s11 s12 s13 s14 s15 s16 s17 s18 s19 s20 s21 s22 s23 s24 s25 s26 s27 s28 s29 s30 s31 s32 s33 s34 s35 s36 s37 s38 s39 s40 s41 s42 s43 s44 s45 s46 s47 s48 s49 s50 s51 s52 s53 s54 s55 s56 s57 s58 s59 s60 s61 s62 s63 s64 s65 s66 s67:Value} (hI:w0.heap[g]?=some (rrB A6 n6 c6 er))
  (hend:∀ (w':World),Chg (fun k=>False∨False) w0 w'→Q .normal { tmps:=(s0 :: s1 :: (.slice none 0 0) :: (.int .i64 er) :: (.pointer (some ⟨g,0,none⟩)) :: s5 :: s6 :: s7 :: s8 :: s9 :: s10 :: s11 :: s12 :: s13 :: s14 :: s15 :: s16 :: s17 :: s18 :: s19 :: s20 :: s21 :: s22 :: s23 :: s24 :: s25 :: s26 :: s27 :: s28 :: s29 :: s30 :: s31 :: s32 :: s33 :: s34 :: s35 :: s36 :: s37 :: s38 :: s39 :: s40 :: s41 :: s42 :: s43 :: s44 :: s45 :: s46 :: s47 :: s48 :: s49 :: s50 :: s51 :: s52 :: s53 :: s54 :: s55 :: s56 :: s57 :: s58 :: s59 :: s60 :: s61 :: (.pointer (some ⟨g,0,none⟩)) :: (.pointer (some ⟨g,0,none⟩)) :: (.pointer (some ⟨g,0,none⟩)) :: (.pointer (some ⟨g,1,none⟩)) :: (.int .i64 er) :: s67 :: []:List Value).toArray,defers:=[] } w') :
  (Code.region id rx18_ops.toArray true).wp Try.prog Q { tmps:=(s0 :: s1 :: s2 :: s3 :: (.pointer (some ⟨g,0,none⟩)) :: s5 :: s6 :: s7 :: s8 :: s9 :: s10 :: s11 :: s12 :: s13 :: s14 :: s15 :: s16 :: s17 :: s18 :: s19 :: s20 :: s21 :: s22 :: s23 :: s24 :: s25 :: s26 :: s27 :: s28 :: s29 :: s30 :: s31 :: s32 :: s33 :: s34 :: s35 :: s36 :: s37 :: s38 :: s39 :: s40 :: s41 :: s42 :: s43 :: s44 :: s45 :: s46 :: s47 :: s48 :: s49 :: s50 :: s51 :: s52 :: s53 :: s54 :: s55 :: s56 :: s57 :: s58 :: s59 :: s60 :: s61 :: s62 :: s63 :: s64 :: s65 :: s66 :: s67 :: []:List Value).toArray,defers:=[] } w0:=by
 refine wp_region_est (by kernel_rfl) (est2 0 0 (fun _=>False) (fun _=>False)) rx18_C (rx18_F w0 g n6 c6 A6 er) (est2_dis (fun _ h _=>h)) (est2_range (fun _ h=>h.elim) (fun _ h=>h.elim)) (by rfl) (by kernel_rfl) (rx18_obs w0.drew g n6 c6 A6 er hI _ _ rfl) ?_
 intro a w' O hd hs hb hf hf2 ha hsame
 have hl:=slots_eq (ops:=rx18_ops.toArray) [(2,.slice none 0 0),(3,.int .i64 er),(62,.pointer (some ⟨g,0,none⟩)),(63,.pointer (some ⟨g,0,none⟩)),(64,.pointer (some ⟨g,0,none⟩)),(65,.pointer (some ⟨g,1,none⟩)),(66,.int .i64 er)] (show a.tmps.size=68 from hs) (fun i h=>hsame i h) ⟨(hf 5 _ 2 rfl rfl (by decide)).1,(hf 6 _ 3 rfl rfl (by decide)).1,(hf 0 _ 62 rfl rfl (by decide)).1,(hf 1 _ 63 rfl rfl (by decide)).1,(hf 2 _ 64 rfl rfl (by decide)).1,(hf 3 _ 65 rfl rfl (by decide)).1,(hf 4 _ 66 rfl rfl (by decide)).1,trivial⟩ (by kernel_rfl)
 obtain ⟨tmps,defers⟩:=a
 obtain rfl:defers=[]:=hd
 have hl':tmps=_:=hl
 rw [hl']
 have hb':=est2_chg hb
 refine Eq.mp ?_ (hend w' ⟨hb'.os,hb'.tape,hb'.output,hb'.size,hb'.block⟩)
 kernel_rfl

end Go.Proofs.Ytcgkeolgflphiaa

namespace Go.Proofs.Ytcgkeolgflphiaa
open Go.RowKit Go.Proofs.YtcgkeolgflphiaaW.PrintWords Go.RegionInvYtcgkeolgflphiaa Go.RegionEYtcgkeolgflphiaa

abbrev Nf:=Int × List Int
def NfAt (w:World) (S:Nat→Prop) (A:Option Addr) (i:Nat) (f:Nf):Prop:=
 ∃ b o A' c',A=some ⟨b,o,none⟩∧S b∧w.cell? ⟨b,o+i * 2,none⟩=some (.int .i64 f.1)∧w.cell? ⟨b,o+i * 2+1,none⟩=some (.slice A' f.2.length c')∧f.2.length≤c'∧IntsS w S A' f.2.length f.2
def NfsS (w:World) (S:Nat→Prop) (A:Option Addr) (fs:List Nf):Prop:=∀ (i:Nat) (f:Nf),fs[i]?=some f→NfAt w S A i f
theorem NfAt.same {w w':World} {S:Nat→Prop} {A:Option Addr} {i:Nat} {f:Nf} (h:NfAt w S A i f) (hs:∀ k,S k→k<w.heap.size→w'.heap[k]?=w.heap[k]?):NfAt w' S A i f:=by
 obtain ⟨b,o,A',c',e,hb,h1,h2,h3,h4⟩:=h
 have hz:b<w.heap.size:=World.block_lt_of_cell? w _ h1
 have key:∀ j,w'.cell? ⟨b,j,none⟩=w.cell? ⟨b,j,none⟩:=fun j=>cell_same (hs _ hb hz)
 exact ⟨b,o,A',c',e,hb,(key _).trans h1,(key _).trans h2,h3,h4.same hs⟩
theorem NfAt.mono {w:World} {S S':Nat→Prop} {A:Option Addr} {i:Nat} {f:Nf} (h:NfAt w S A i f) (hs:∀ k,S k→k<w.heap.size→S' k):NfAt w S' A i f:=by
 obtain ⟨b,o,A',c',e,hb,h1,h2,h3,h4⟩:=h
 exact ⟨b,o,A',c',e,hs _ hb (World.block_lt_of_cell? w _ h1),h1,h2,h3,h4.mono hs⟩
theorem NfsS.same {w w':World} {S:Nat→Prop} {A:Option Addr} {fs:List Nf} (h:NfsS w S A fs) (hs:∀ k,S k→k<w.heap.size→w'.heap[k]?=w.heap[k]?):NfsS w' S A fs:=fun i f hf=>(h i f hf).same hs
theorem NfsS.mono {w:World} {S S':Nat→Prop} {A:Option Addr} {fs:List Nf} (h:NfsS w S A fs) (hs:∀ k,S k→k<w.heap.size→S' k):NfsS w S' A fs:=fun i f hf=>(h i f hf).mono hs
theorem NfsS.nil (w:World) (S:Nat→Prop) (A:Option Addr):NfsS w S A []:=fun i f hf=>by simp at hf

end Go.Proofs.Ytcgkeolgflphiaa

namespace Go.Proofs.Ytcgkeolgflphiaa
open Go.RowKit Go.Proofs.YtcgkeolgflphiaaW.PrintWords Go.RegionInvYtcgkeolgflphiaa Go.RegionEYtcgkeolgflphiaa

theorem lit_kid {w:World} {S:Nat→Prop} {gb off:Nat} {i:Nat} {a b:Int} {A':Option Addr} {n' c':Nat} (h:CellsAt w S (some ⟨gb,off,none⟩) i a b A' n' c') :
  w.cell? ⟨gb,off+i * 3,none⟩=some (.int .i64 a)∧w.cell? ⟨gb,off+i * 3+1,none⟩=some (.int .i64 b)∧w.cell? ⟨gb,off+i * 3+2,none⟩=some (.slice A' n' c'):=by
 obtain ⟨ad,e,_,_,h1,h2,h3⟩:=h
 obtain rfl:=Option.some.inj e
 simpa only [add_flat,Nat.add_assoc] using (⟨h1,h2,h3⟩:_∧_∧_)
theorem kid_ptr {w:World} {S:Nat→Prop} {A:Option Addr} {i:Nat} {a b:Int} {A':Option Addr} {n' c':Nat} (h:CellsAt w S A i a b A' n' c'):∃ gb off,A=some ⟨gb,off,none⟩∧S gb:=by
 obtain ⟨⟨gb,off,sp⟩,e,hs,hsp,_⟩:=h
 obtain rfl:sp=none:=hsp
 exact ⟨gb,off,e,hs⟩
end Go.Proofs.Ytcgkeolgflphiaa

namespace Go.Proofs.Ytcgkeolgflphiaa
open Go.RowKit Go.Proofs.YtcgkeolgflphiaaW.PrintWords Go.RegionInvYtcgkeolgflphiaa Go.RegionEYtcgkeolgflphiaa

theorem IntsS.take {w:World} {S:Nat→Prop} {A:Option Addr} {n:Nat} {ks:List Int} (h:IntsS w S A n ks) {j:Nat} (hj:j≤n):IntsS w S A j (ks.take j):=by
 refine ⟨⟨by simp;have:=h.1.1;omega,by have:=h.1.2.1;omega,fun h0=>?_⟩,fun h0=>h.2 (by omega)⟩
 obtain ⟨ad,e,hc⟩:=h.1.2.2 (by omega)
 refine ⟨ad,e,fun i hi=>?_⟩
 rw [hc i (by omega)]
 simp [List.getD_eq_getElem?_getD,List.getElem?_take,hi]
end Go.Proofs.Ytcgkeolgflphiaa

namespace Go.Proofs.Ytcgkeolgflphiaa
open Go.RowKit Go.Proofs.YtcgkeolgflphiaaW.PrintWords

mutual
def sz:Lv→Nat
 | .mk _ _ ks=>szs ks+1
def szs:List Lv→Nat
 | []=>0
 | x :: r=>sz x+szs r
end
theorem sz_mk (k n:Int) (ks:List Lv):sz (.mk k n ks)=szs ks+1:=by rw [sz]
theorem szs_cons (x:Lv) (r:List Lv):szs (x :: r)=sz x+szs r:=by rw [szs]
theorem szs_nil:szs []=0:=by rw [szs]
end Go.Proofs.Ytcgkeolgflphiaa

namespace Go.Proofs.Ytcgkeolgflphiaa
open Go.RowKit Go.Proofs.YtcgkeolgflphiaaW.PrintWords Go.RegionInvYtcgkeolgflphiaa Go.RegionEYtcgkeolgflphiaa

mutual
def simB:Lv→Lv→Bool
 | .mk k n ks,l=>decide (k=l.kind) && (decide (k=4) || decide (n=l.num)) && decide (ks.length=l.kids.length) && simKs ks l.kids
def simKs:List Lv→List Lv→Bool
 | [],_=>true
 | x :: r,ys=>match ys with
  | []=>true
  | y :: s=>simB x y && simKs r s
end
theorem sim_mk (k n:Int) (ks:List Lv) (l:Lv):simB (.mk k n ks) l=(decide (k=l.kind) && (decide (k=4) || decide (n=l.num)) && decide (ks.length=l.kids.length) && simKs ks l.kids):=by rw [simB]
theorem simKs_nil (ys:List Lv):simKs [] ys=true:=by rw [simKs]
theorem simKs_cons (x y:Lv) (r s:List Lv):simKs (x :: r) (y :: s)=(simB x y && simKs r s):=by rw [simKs]
theorem sim_bad {k n:Int} {ks:List Lv} {l:Lv} (h:¬ (k=l.kind∧(k=4∨n=l.num)∧ks.length=l.kids.length)):simB (.mk k n ks) l=false:=by
 rw [sim_mk]
 cases hb:simKs ks l.kids <;> simp_all
theorem sim_ok {k n:Int} {ks:List Lv} {l:Lv} (h:k=l.kind∧(k=4∨n=l.num)∧ks.length=l.kids.length):simB (.mk k n ks) l=simKs ks l.kids:=by
 rw [sim_mk]
 simp only [h.1,h.2.2,decide_true,Bool.true_and,Bool.and_true]
 rcases h.2.1 with h' | h'
 ·rw [← h.1,h'];simp
 ·rw [h'];simp
theorem simKs_not:∀ {ks ys:List Lv} {i:Nat} {x y:Lv},ks[i]?=some x→ys[i]?=some y→simB x y=false→simKs ks ys=false
 | [],_,i,x,y,h,_,_=>by simp at h
 | a :: r,[],i,x,y,_,h,_=>by simp at h
 | a :: r,b :: s,0,x,y,h1,h2,h=>by
  obtain rfl:a=x:=by simpa using h1
  obtain rfl:b=y:=by simpa using h2
  rw [simKs_cons,h];rfl
 | a :: r,b :: s,i+1,x,y,h1,h2,h=>by
  rw [simKs_cons,simKs_not (by simpa using h1) (by simpa using h2) h];simp
theorem simKs_all:∀ {ks ys:List Lv},ks.length=ys.length→(∀ (i:Nat) (x y:Lv),ks[i]?=some x→ys[i]?=some y→simB x y=true)→simKs ks ys=true
 | [],_,_,_=>simKs_nil _
 | a :: r,[],h,_=>by simp at h
 | a :: r,b :: s,h,hall=>by
  rw [simKs_cons,hall 0 a b rfl rfl,simKs_all (by simpa using h) fun i x y h1 h2=>hall (i+1) x y (by simpa using h1) (by simpa using h2)];rfl
def SamePost (w:World) (g:Nat) (r:Bool) (s1:Int) (e:Ending) (w':World):Prop:=e=.returned (.bool r)∧(∃ s',NumAt w' g s'∧(r=true→s'=s1))∧Chg (fun k=>k=g) w w'
theorem szs_take {ks:List Lv} {j:Nat} {x:Lv} (h:ks[j]?=some x):szs (ks.take (j+1))=szs (ks.take j)+sz x:=by
 rw [List.take_add_one,h]
 have:∀ (l:List Lv),szs (l ++ [x])=szs l+sz x:=by
  intro l
  induction l with
  | nil=>rw [List.nil_append,szs_cons,szs_nil];omega
  | cons y r ih=>rw [List.cons_append,szs_cons,ih,szs_cons];omega
 exact this _
theorem szs_part {ks:List Lv} {j:Nat} {x:Lv} (h:ks[j]?=some x):szs (ks.take j)+sz x≤szs ks:=by
 have h2:∀ (l:List Lv) (j:Nat),szs (l.take j)≤szs l:=by
  intro l
  induction l with
  | nil=>intro j;simp
  | cons y r ih =>
   intro j
   cases j with
   | zero=>simp [szs_nil]
   | succ j=>rw [List.take_succ_cons,szs_cons,szs_cons];have:=ih j;omega
 rw [← szs_take h]
 exact h2 _ _
end Go.Proofs.Ytcgkeolgflphiaa

namespace Go.Proofs.Ytcgkeolgflphiaa
open Go.RowKit Go.Proofs.YtcgkeolgflphiaaW.PrintWords Go.RegionInvYtcgkeolgflphiaa Go.RegionEYtcgkeolgflphiaa
set_option linter.unusedVariables false

def sm_ops:List Oper:=[
 { dst:=some 49,op:=Go.Op.fieldAddr 24 (Go.Operand.tmp 3) 2,type:=0,pos:= "ref.go:253",after:=#[],guard:=none },
 { dst:=some 50,op:=Go.Op.load 22 (Go.Operand.tmp 49),type:=22,pos:= "ref.go:253",after:=#[{ on:=0,ground:=Go.Ground.data }],guard:=none },
 { dst:=some 51,op:=Go.Op.move (Go.Operand.tmp 7),type:=3,pos:= "ref.go:253",after:=#[],guard:=none },
 { dst:=some 52,op:=Go.Op.indexAddr 22 (Go.Operand.tmp 50) (Go.Operand.tmp 51),type:=0,pos:= "ref.go:253",after:=#[{ on:=1,ground:=Go.Ground.data },{ on:=2,ground:=Go.Ground.data }],guard:=none },
 { dst:=some 53,op:=Go.Op.load 24 (Go.Operand.tmp 52),type:=24,pos:= "ref.go:253",after:=#[{ on:=3,ground:=Go.Ground.data }],guard:=none },
 { dst:=some 54,op:=Go.Op.fieldAddr 24 (Go.Operand.tmp 4) 2,type:=0,pos:= "ref.go:253",after:=#[],guard:=none },
 { dst:=some 55,op:=Go.Op.load 22 (Go.Operand.tmp 54),type:=22,pos:= "ref.go:253",after:=#[{ on:=5,ground:=Go.Ground.data }],guard:=none },
 { dst:=some 56,op:=Go.Op.move (Go.Operand.tmp 7),type:=3,pos:= "ref.go:253",after:=#[],guard:=none },
 { dst:=some 57,op:=Go.Op.indexAddr 22 (Go.Operand.tmp 55) (Go.Operand.tmp 56),type:=0,pos:= "ref.go:253",after:=#[{ on:=6,ground:=Go.Ground.data },{ on:=7,ground:=Go.Ground.data }],guard:=none },
 { dst:=some 58,op:=Go.Op.load 24 (Go.Operand.tmp 57),type:=24,pos:= "ref.go:253",after:=#[{ on:=8,ground:=Go.Ground.data }],guard:=none },
 { dst:=some 59,op:=Go.Op.move (Go.Operand.tmp 2),type:=84,pos:= "ref.go:253",after:=#[],guard:=none },
 { dst:=some 60,op:=Go.Op.call { callee:=Go.Callee.value (Go.Operand.func 112),args:=#[Go.Operand.tmp 53,Go.Operand.tmp 58,Go.Operand.tmp 59],argTypes:=#[24,24,84] },type:=4,pos:= "ref.go:253",after:=#[{ on:=4,ground:=Go.Ground.data },{ on:=9,ground:=Go.Ground.data },{ on:=10,ground:=Go.Ground.data }],guard:=none },
 { dst:=some 61,op:=Go.Op.unOp Go.UnOp.not 4 (Go.Operand.tmp 60),type:=4,pos:= "ref.go:253",after:=#[{ on:=11,ground:=Go.Ground.data }],guard:=none }]
def sm_F (w0:World) (g b:Nat) (i:Nat) (k1 n1 k2 n2:Int) (ga oa gd od m ca cd:Nat) (xk xn yk yn:Int) (A1 A2:Option Addr) (m1 c1 m2 c2:Nat) (r:Bool) (cnt1:Int):Nat→(Nat→Value)→Value→World→(Nat→Prop)→Prop:=fun rix=>match rix with
 | 0=>fun _ v _ _=>v=.pointer (some ⟨b,2,none⟩)
 | 1=>fun _ v _ _=>v=.slice (some ⟨ga,oa,none⟩) m ca
 | 2=>fun _ v _ _=>v=.int .i64 i
 | 3=>fun _ v _ _=>v=.pointer (some ⟨ga,oa+i * 3,none⟩)
 | 4=>fun _ v _ _=>v=.agg #[.int .i64 xk,.int .i64 xn,.slice A1 m1 c1]
 | 5=>fun _ v _ _=>v=.pointer (some ⟨b+1,2,none⟩)
 | 6=>fun _ v _ _=>v=.slice (some ⟨gd,od,none⟩) m cd
 | 7=>fun _ v _ _=>v=.int .i64 i
 | 8=>fun _ v _ _=>v=.pointer (some ⟨gd,od+i * 3,none⟩)
 | 9=>fun _ v _ _=>v=.agg #[.int .i64 yk,.int .i64 yn,.slice A2 m2 c2]
 | 10=>fun _ v _ _=>v=.pointer (some ⟨g,0,none⟩)
 | 11=>fun τ v w O=>(v=.bool r∧O g∧∃ s',NumAt w g s'∧(r=true→s'=cnt1))
 | 12=>fun _ v _ _=>v=.bool (!r)
 | _=>fun _ _ _ _=>True
def sm_C:Nat→List Nat:=fun rix=>match rix with
 | _=>[]
theorem sm_nw2:nwB sm_ops.toArray 2=true:=by kernel_rfl
theorem sm_nw3:nwB sm_ops.toArray 3=true:=by kernel_rfl
theorem sm_nw4:nwB sm_ops.toArray 4=true:=by kernel_rfl
theorem sm_nw7:nwB sm_ops.toArray 7=true:=by kernel_rfl
set_option maxRecDepth 100000 in
set_option maxHeartbeats 8000000 in
theorem sm_obs (w0:World) (g b:Nat) (i:Nat) (k1 n1 k2 n2:Int) (ga oa gd od m ca cd:Nat) (xk xn yk yn:Int) (A1 A2:Option Addr) (m1 c1 m2 c2:Nat) (r:Bool) (cnt1:Int) (hx3:w0.heap[b]?=some (.cells #[.int .i64 k1,.int .i64 n1,.slice (some ⟨ga,oa,none⟩) m ca] 24 (0,0))) (hx4:w0.heap[b+1]?=some (.cells #[.int .i64 k2,.int .i64 n2,.slice (some ⟨gd,od,none⟩) m cd] 24 (0,0))) (hgb:g<b) (hga:ga<w0.heap.size) (hgag:ga≠g) (hgd:gd<w0.heap.size) (hgdg:gd≠g) (him:i<m) (hc0:w0.cell? ⟨ga,oa+i * 3,none⟩=some (.int .i64 xk)) (hc1:w0.cell? ⟨ga,oa+i * 3+1,none⟩=some (.int .i64 xn)) (hc2:w0.cell? ⟨ga,oa+i * 3+2,none⟩=some (.slice A1 m1 c1)) (hd0:w0.cell? ⟨gd,od+i * 3,none⟩=some (.int .i64 yk)) (hd1:w0.cell? ⟨gd,od+i * 3+1,none⟩=some (.int .i64 yn)) (hd2:w0.cell? ⟨gd,od+i * 3+2,none⟩=some (.slice A2 m2 c2)) {cnt0:Int} (hg:NumAt w0 g cnt0) (hrec:∀ w,(∀ k,k<w0.heap.size→k≠g→w.heap[k]?=w0.heap[k]?)→NumAt w g cnt0→w0.heap.size≤w.heap.size→Calls Try.prog 112 #[.agg #[.int .i64 xk,.int .i64 xn,.slice A1 m1 c1],.agg #[.int .i64 yk,.int .i64 yn,.slice A2 m2 c2],.pointer (some ⟨g,0,none⟩)] w (SamePost w g r cnt1)) (Q:Exit→Act→World→Prop) (a0:Act) (hi2:a0.tmps.getD 2 undef=.pointer (some ⟨g,0,none⟩)) (hi3:a0.tmps.getD 3 undef=.pointer (some ⟨b,0,none⟩)) (hi4:a0.tmps.getD 4 undef=.pointer (some ⟨b+1,0,none⟩)) (hi7:a0.tmps.getD 7 undef=.int .i64 i) :
  ObsE Try.prog sm_ops.toArray Q (est2 11 0 (fun k=>k=g) (fun _=>False)) sm_C (sm_F w0 g b i k1 n1 k2 n2 ga oa gd od m ca cd xk xn yk yn A1 A2 m1 c1 m2 c2 r cnt1) a0 w0 sm_ops.toArray.toList 0:=by
 have nw2:=sm_nw2
 have nw3:=sm_nw3
 have nw4:=sm_nw4
 have nw7:=sm_nw7
 refine ⟨?_,?_,?_,?_,?_,?_,?_,?_,?_,?_,?_,?_,?_,trivial⟩
 ·refine ⟨⟨fun τ=>stableE_det _,leans_not⟩,?_⟩
  intro a w O hk
  have e3:a.eval (.tmp 3)=.pointer (some ⟨b,0,none⟩):=(hk.init 3 (initialB_of_nw nw3)).trans hi3
  exact obE_run (wanted_none rfl) (by unfold execOp;simp only [];rw [e3];go_simp) rfl
 ·refine ⟨⟨fun τ=>stableE_det _,leans_not⟩,?_⟩
  intro a w O hk
  have e49:a.eval (.tmp 49)=.pointer (some ⟨b,2,none⟩):=hk.fact 0 _ 49 rfl rfl rfl rfl
  have x3:=hk.world.still hx3 (fun ⟨_,h⟩=>h.elim (fun h=>by have:b=g:=h.2;omega) And.right)
  have x4:=hk.world.still hx4 (fun ⟨_,h⟩=>h.elim (fun h=>by have:b+1=g:=h.2;omega) And.right)
  obtain ⟨p0,p1,p2,-,-,-⟩:=row3 x3
  obtain ⟨q0,q1,q2,-,-,-⟩:=row3 x4
  have hfx:∀ k,k<w0.heap.size→k≠g→w.heap[k]?=w0.heap[k]?:=fun k hkb hkg=>hk.fix k (est2_fix hkb (fun h=>hkg h) (fun h=>h))
  have hcc:∀ j,w.cell? ⟨ga,j,none⟩=w0.cell? ⟨ga,j,none⟩:=fun j=>cell_same (hfx _ hga hgag)
  have hcd:∀ j,w.cell? ⟨gd,j,none⟩=w0.cell? ⟨gd,j,none⟩:=fun j=>cell_same (hfx _ hgd hgdg)
  have r0:=(hcc _).trans hc0
  have r1:=(hcc _).trans hc1
  have r2:=(hcc _).trans hc2
  have t0:=(hcd _).trans hd0
  have t1:=(hcd _).trans hd1
  have t2:=(hcd _).trans hd2
  exact obE_run (wanted_none rfl) (by unfold execOp;simp only [];rw [e49];go_simp) rfl
 ·refine ⟨⟨fun τ=>stableE_det _,leans_not⟩,?_⟩
  intro a w O hk
  have e7:a.eval (.tmp 7)=.int .i64 i:=(hk.init 7 (initialB_of_nw nw7)).trans hi7
  exact toE (ob_move rfl e7 (wanted_none rfl) rfl)
 ·refine ⟨⟨fun τ=>stableE_det _,leans_not⟩,?_⟩
  intro a w O hk
  have e50:a.eval (.tmp 50)=.slice (some ⟨ga,oa,none⟩) m ca:=hk.fact 1 _ 50 rfl rfl rfl rfl
  have e51:a.eval (.tmp 51)=.int .i64 i:=hk.fact 2 _ 51 rfl rfl rfl rfl
  have x3:=hk.world.still hx3 (fun ⟨_,h⟩=>h.elim (fun h=>by have:b=g:=h.2;omega) And.right)
  have x4:=hk.world.still hx4 (fun ⟨_,h⟩=>h.elim (fun h=>by have:b+1=g:=h.2;omega) And.right)
  obtain ⟨p0,p1,p2,-,-,-⟩:=row3 x3
  obtain ⟨q0,q1,q2,-,-,-⟩:=row3 x4
  have hfx:∀ k,k<w0.heap.size→k≠g→w.heap[k]?=w0.heap[k]?:=fun k hkb hkg=>hk.fix k (est2_fix hkb (fun h=>hkg h) (fun h=>h))
  have hcc:∀ j,w.cell? ⟨ga,j,none⟩=w0.cell? ⟨ga,j,none⟩:=fun j=>cell_same (hfx _ hga hgag)
  have hcd:∀ j,w.cell? ⟨gd,j,none⟩=w0.cell? ⟨gd,j,none⟩:=fun j=>cell_same (hfx _ hgd hgdg)
  have r0:=(hcc _).trans hc0
  have r1:=(hcc _).trans hc1
  have r2:=(hcc _).trans hc2
  have t0:=(hcd _).trans hd0
  have t1:=(hcd _).trans hd1
  have t2:=(hcd _).trans hd2
  exact obE_run (wanted_none rfl) (by unfold execOp;simp only [];rw [e50,e51];go_simp) rfl
 ·refine ⟨⟨fun τ=>stableE_det _,leans_not⟩,?_⟩
  intro a w O hk
  have e52:a.eval (.tmp 52)=.pointer (some ⟨ga,oa+i * 3,none⟩):=hk.fact 3 _ 52 rfl rfl rfl rfl
  have x3:=hk.world.still hx3 (fun ⟨_,h⟩=>h.elim (fun h=>by have:b=g:=h.2;omega) And.right)
  have x4:=hk.world.still hx4 (fun ⟨_,h⟩=>h.elim (fun h=>by have:b+1=g:=h.2;omega) And.right)
  obtain ⟨p0,p1,p2,-,-,-⟩:=row3 x3
  obtain ⟨q0,q1,q2,-,-,-⟩:=row3 x4
  have hfx:∀ k,k<w0.heap.size→k≠g→w.heap[k]?=w0.heap[k]?:=fun k hkb hkg=>hk.fix k (est2_fix hkb (fun h=>hkg h) (fun h=>h))
  have hcc:∀ j,w.cell? ⟨ga,j,none⟩=w0.cell? ⟨ga,j,none⟩:=fun j=>cell_same (hfx _ hga hgag)
  have hcd:∀ j,w.cell? ⟨gd,j,none⟩=w0.cell? ⟨gd,j,none⟩:=fun j=>cell_same (hfx _ hgd hgdg)
  have r0:=(hcc _).trans hc0
  have r1:=(hcc _).trans hc1
  have r2:=(hcc _).trans hc2
  have t0:=(hcd _).trans hd0
  have t1:=(hcd _).trans hd1
  have t2:=(hcd _).trans hd2
  exact obE_run (wanted_none rfl) (by unfold execOp;simp only [];rw [e52];go_simp) rfl
 ·refine ⟨⟨fun τ=>stableE_det _,leans_not⟩,?_⟩
  intro a w O hk
  have e4:a.eval (.tmp 4)=.pointer (some ⟨b+1,0,none⟩):=(hk.init 4 (initialB_of_nw nw4)).trans hi4
  exact obE_run (wanted_none rfl) (by unfold execOp;simp only [];rw [e4];go_simp) rfl
 ·refine ⟨⟨fun τ=>stableE_det _,leans_not⟩,?_⟩
  intro a w O hk
  have e54:a.eval (.tmp 54)=.pointer (some ⟨b+1,2,none⟩):=hk.fact 5 _ 54 rfl rfl rfl rfl
  have x3:=hk.world.still hx3 (fun ⟨_,h⟩=>h.elim (fun h=>by have:b=g:=h.2;omega) And.right)
  have x4:=hk.world.still hx4 (fun ⟨_,h⟩=>h.elim (fun h=>by have:b+1=g:=h.2;omega) And.right)
  obtain ⟨p0,p1,p2,-,-,-⟩:=row3 x3
  obtain ⟨q0,q1,q2,-,-,-⟩:=row3 x4
  have hfx:∀ k,k<w0.heap.size→k≠g→w.heap[k]?=w0.heap[k]?:=fun k hkb hkg=>hk.fix k (est2_fix hkb (fun h=>hkg h) (fun h=>h))
  have hcc:∀ j,w.cell? ⟨ga,j,none⟩=w0.cell? ⟨ga,j,none⟩:=fun j=>cell_same (hfx _ hga hgag)
  have hcd:∀ j,w.cell? ⟨gd,j,none⟩=w0.cell? ⟨gd,j,none⟩:=fun j=>cell_same (hfx _ hgd hgdg)
  have r0:=(hcc _).trans hc0
  have r1:=(hcc _).trans hc1
  have r2:=(hcc _).trans hc2
  have t0:=(hcd _).trans hd0
  have t1:=(hcd _).trans hd1
  have t2:=(hcd _).trans hd2
  exact obE_run (wanted_none rfl) (by unfold execOp;simp only [];rw [e54];go_simp) rfl
 ·refine ⟨⟨fun τ=>stableE_det _,leans_not⟩,?_⟩
  intro a w O hk
  have e7:a.eval (.tmp 7)=.int .i64 i:=(hk.init 7 (initialB_of_nw nw7)).trans hi7
  exact toE (ob_move rfl e7 (wanted_none rfl) rfl)
 ·refine ⟨⟨fun τ=>stableE_det _,leans_not⟩,?_⟩
  intro a w O hk
  have e55:a.eval (.tmp 55)=.slice (some ⟨gd,od,none⟩) m cd:=hk.fact 6 _ 55 rfl rfl rfl rfl
  have e56:a.eval (.tmp 56)=.int .i64 i:=hk.fact 7 _ 56 rfl rfl rfl rfl
  have x3:=hk.world.still hx3 (fun ⟨_,h⟩=>h.elim (fun h=>by have:b=g:=h.2;omega) And.right)
  have x4:=hk.world.still hx4 (fun ⟨_,h⟩=>h.elim (fun h=>by have:b+1=g:=h.2;omega) And.right)
  obtain ⟨p0,p1,p2,-,-,-⟩:=row3 x3
  obtain ⟨q0,q1,q2,-,-,-⟩:=row3 x4
  have hfx:∀ k,k<w0.heap.size→k≠g→w.heap[k]?=w0.heap[k]?:=fun k hkb hkg=>hk.fix k (est2_fix hkb (fun h=>hkg h) (fun h=>h))
  have hcc:∀ j,w.cell? ⟨ga,j,none⟩=w0.cell? ⟨ga,j,none⟩:=fun j=>cell_same (hfx _ hga hgag)
  have hcd:∀ j,w.cell? ⟨gd,j,none⟩=w0.cell? ⟨gd,j,none⟩:=fun j=>cell_same (hfx _ hgd hgdg)
  have r0:=(hcc _).trans hc0
  have r1:=(hcc _).trans hc1
  have r2:=(hcc _).trans hc2
  have t0:=(hcd _).trans hd0
  have t1:=(hcd _).trans hd1
  have t2:=(hcd _).trans hd2
  exact obE_run (wanted_none rfl) (by unfold execOp;simp only [];rw [e55,e56];go_simp) rfl
 ·refine ⟨⟨fun τ=>stableE_det _,leans_not⟩,?_⟩
  intro a w O hk
  have e57:a.eval (.tmp 57)=.pointer (some ⟨gd,od+i * 3,none⟩):=hk.fact 8 _ 57 rfl rfl rfl rfl
  have x3:=hk.world.still hx3 (fun ⟨_,h⟩=>h.elim (fun h=>by have:b=g:=h.2;omega) And.right)
  have x4:=hk.world.still hx4 (fun ⟨_,h⟩=>h.elim (fun h=>by have:b+1=g:=h.2;omega) And.right)
  obtain ⟨p0,p1,p2,-,-,-⟩:=row3 x3
  obtain ⟨q0,q1,q2,-,-,-⟩:=row3 x4
  have hfx:∀ k,k<w0.heap.size→k≠g→w.heap[k]?=w0.heap[k]?:=fun k hkb hkg=>hk.fix k (est2_fix hkb (fun h=>hkg h) (fun h=>h))
  have hcc:∀ j,w.cell? ⟨ga,j,none⟩=w0.cell? ⟨ga,j,none⟩:=fun j=>cell_same (hfx _ hga hgag)
  have hcd:∀ j,w.cell? ⟨gd,j,none⟩=w0.cell? ⟨gd,j,none⟩:=fun j=>cell_same (hfx _ hgd hgdg)
  have r0:=(hcc _).trans hc0
  have r1:=(hcc _).trans hc1
  have r2:=(hcc _).trans hc2
  have t0:=(hcd _).trans hd0
  have t1:=(hcd _).trans hd1
  have t2:=(hcd _).trans hd2
  exact obE_run (wanted_none rfl) (by unfold execOp;simp only [];rw [e57];go_simp) rfl
 ·refine ⟨⟨fun τ=>stableE_det _,leans_not⟩,?_⟩
  intro a w O hk
  have e2:a.eval (.tmp 2)=.pointer (some ⟨g,0,none⟩):=(hk.init 2 (initialB_of_nw nw2)).trans hi2
  exact toE (ob_move rfl e2 (wanted_none rfl) rfl)
 ·refine ⟨⟨fun τ=>fun v w w' O h hz hk=>⟨h.1,h.2.1,by obtain ⟨s',h1,h2⟩:=h.2.2;exact ⟨s',(hk g (blk_lt h1) (.inr h.2.1)).trans h1,h2⟩⟩,leans_not⟩,?_⟩
  intro a w O hk
  have e53:a.eval (.tmp 53)=.agg #[.int .i64 xk,.int .i64 xn,.slice A1 m1 c1]:=hk.fact 4 _ 53 rfl rfl rfl rfl
  have e58:a.eval (.tmp 58)=.agg #[.int .i64 yk,.int .i64 yn,.slice A2 m2 c2]:=hk.fact 9 _ 58 rfl rfl rfl rfl
  have e59:a.eval (.tmp 59)=.pointer (some ⟨g,0,none⟩):=hk.fact 10 _ 59 rfl rfl rfl rfl
  have x3:=hk.world.still hx3 (fun ⟨_,h⟩=>h.elim (fun h=>by have:b=g:=h.2;omega) And.right)
  have x4:=hk.world.still hx4 (fun ⟨_,h⟩=>h.elim (fun h=>by have:b+1=g:=h.2;omega) And.right)
  obtain ⟨p0,p1,p2,-,-,-⟩:=row3 x3
  obtain ⟨q0,q1,q2,-,-,-⟩:=row3 x4
  have hfx:∀ k,k<w0.heap.size→k≠g→w.heap[k]?=w0.heap[k]?:=fun k hkb hkg=>hk.fix k (est2_fix hkb (fun h=>hkg h) (fun h=>h))
  have hcc:∀ j,w.cell? ⟨ga,j,none⟩=w0.cell? ⟨ga,j,none⟩:=fun j=>cell_same (hfx _ hga hgag)
  have hcd:∀ j,w.cell? ⟨gd,j,none⟩=w0.cell? ⟨gd,j,none⟩:=fun j=>cell_same (hfx _ hgd hgdg)
  have r0:=(hcc _).trans hc0
  have r1:=(hcc _).trans hc1
  have r2:=(hcc _).trans hc2
  have t0:=(hcd _).trans hd0
  have t1:=(hcd _).trans hd1
  have t2:=(hcd _).trans hd2
  refine obE_call #[.agg #[.int .i64 xk,.int .i64 xn,.slice A1 m1 c1],.agg #[.int .i64 yk,.int .i64 yn,.slice A2 m2 c2],.pointer (some ⟨g,0,none⟩)] rfl rfl rfl rfl (by simp only [List.map_cons,List.map_nil];rw [e53,e58,e59]) (wanted_none rfl) ((hrec w hfx ((hk.est 11 _ rfl (.inl rfl) g (.inl ⟨rfl,rfl⟩)).trans hg) hk.world.size).mono ?_)
  rintro e w' ⟨rfl,hn,hc⟩
  exact ⟨_,fun k=>k=g,rfl,⟨rfl,rfl,hn⟩,hc.mono fun k h=>.inr (.inl ⟨rfl,h⟩),fun k h=>.inl (.inr (.inl ⟨rfl,h⟩))⟩
 ·refine ⟨⟨fun τ=>stableE_det _,leans_not⟩,?_⟩
  intro a w O hk
  have f60:=hk.fact 11 _ 60 rfl rfl rfl rfl
  have g60:=hk.owns 11 rfl rfl
  have x3:=hk.world.still hx3 (fun ⟨_,h⟩=>h.elim (fun h=>by have:b=g:=h.2;omega) And.right)
  have x4:=hk.world.still hx4 (fun ⟨_,h⟩=>h.elim (fun h=>by have:b+1=g:=h.2;omega) And.right)
  obtain ⟨p0,p1,p2,-,-,-⟩:=row3 x3
  obtain ⟨q0,q1,q2,-,-,-⟩:=row3 x4
  have hfx:∀ k,k<w0.heap.size→k≠g→w.heap[k]?=w0.heap[k]?:=fun k hkb hkg=>hk.fix k (est2_fix hkb (fun h=>hkg h) (fun h=>h))
  have hcc:∀ j,w.cell? ⟨ga,j,none⟩=w0.cell? ⟨ga,j,none⟩:=fun j=>cell_same (hfx _ hga hgag)
  have hcd:∀ j,w.cell? ⟨gd,j,none⟩=w0.cell? ⟨gd,j,none⟩:=fun j=>cell_same (hfx _ hgd hgdg)
  have r0:=(hcc _).trans hc0
  have r1:=(hcc _).trans hc1
  have r2:=(hcc _).trans hc2
  have t0:=(hcd _).trans hd0
  have t1:=(hcd _).trans hd1
  have t2:=(hcd _).trans hd2
  have e60:a.eval (.tmp 60)=.bool r:=f60.1
  exact obE_run (wanted_none rfl) (by unfold execOp;simp only [];rw [e60];go_simp) rfl
set_option maxRecDepth 100000 in
set_option maxHeartbeats 8000000 in
theorem sm_region {Q:Exit→Act→World→Prop} {id:Nat} (w0:World) (g b:Nat) (i:Nat) (k1 n1 k2 n2:Int) (ga oa gd od m ca cd:Nat) (xk xn yk yn:Int) (A1 A2:Option Addr) (m1 c1 m2 c2:Nat) (r:Bool) (cnt1:Int) {s0 s1 s5 s6 s8 s9 s10 s11 s12 s13 s14 s15 s16 s17 s18 s19 s20 s21 s22 s23 s24 s25 s26 s27 s28 s29 s30 s31 s32 s33 s34 s35 s36 s37 s38 s39 s40 s41 s42 s43 s44 s45 s46 s47 s48 s49 s50 s51 s52 s53 s54 s55 s56 s57 s58 s59 s60 s61 s62:Value} (hx3:w0.heap[b]?=some (.cells #[.int .i64 k1,.int .i64 n1,.slice (some ⟨ga,oa,none⟩) m ca] 24 (0,0))) (hx4:w0.heap[b+1]?=some (.cells #[.int .i64 k2,.int .i64 n2,.slice (some ⟨gd,od,none⟩) m cd] 24 (0,0))) (hgb:g<b) (hga:ga<w0.heap.size) (hgag:ga≠g) (hgd:gd<w0.heap.size) (hgdg:gd≠g) (him:i<m) (hc0:w0.cell? ⟨ga,oa+i * 3,none⟩=some (.int .i64 xk)) (hc1:w0.cell? ⟨ga,oa+i * 3+1,none⟩=some (.int .i64 xn)) (hc2:w0.cell? ⟨ga,oa+i * 3+2,none⟩=some (.slice A1 m1 c1)) (hd0:w0.cell? ⟨gd,od+i * 3,none⟩=some (.int .i64 yk)) (hd1:w0.cell? ⟨gd,od+i * 3+1,none⟩=some (.int .i64 yn)) (hd2:w0.cell? ⟨gd,od+i * 3+2,none⟩=some (.slice A2 m2 c2)) {cnt0:Int} (hg:NumAt w0 g cnt0) (hrec:∀ w,(∀ k,k<w0.heap.size→k≠g→w.heap[k]?=w0.heap[k]?)→NumAt w g cnt0→w0.heap.size≤w.heap.size→Calls Try.prog 112 #[.agg #[.int .i64 xk,.int .i64 xn,.slice A1 m1 c1],.agg #[.int .i64 yk,.int .i64 yn,.slice A2 m2 c2],.pointer (some ⟨g,0,none⟩)] w (SamePost w g r cnt1))
  (hend:∀ (w':World) (u60:Value) (O11:Nat→Prop),Chg (fun k=>(fun k=>k=g) k∨(fun _=>False) k) w0 w'→((u60=.bool r∧O11 g∧∃ s',NumAt w' g s'∧(r=true→s'=cnt1)))→(∀ k,O11 k→k<w'.heap.size∧¬ Fix w0 (est2 11 0 (fun k=>k=g) (fun _=>False)) k)→Q .normal { tmps:=(s0 :: s1 :: (.pointer (some ⟨g,0,none⟩)) :: (.pointer (some ⟨b,0,none⟩)) :: (.pointer (some ⟨b+1,0,none⟩)) :: s5 :: s6 :: (.int .i64 i) :: s8 :: s9 :: s10 :: s11 :: s12 :: s13 :: s14 :: s15 :: s16 :: s17 :: s18 :: s19 :: s20 :: s21 :: s22 :: s23 :: s24 :: s25 :: s26 :: s27 :: s28 :: s29 :: s30 :: s31 :: s32 :: s33 :: s34 :: s35 :: s36 :: s37 :: s38 :: s39 :: s40 :: s41 :: s42 :: s43 :: s44 :: s45 :: s46 :: s47 :: s48 :: (.pointer (some ⟨b,2,none⟩)) :: (.slice (some ⟨ga,oa,none⟩) m ca) :: (.int .i64 i) :: (.pointer (some ⟨ga,oa+i * 3,none⟩)) :: (.agg #[.int .i64 xk,.int .i64 xn,.slice A1 m1 c1]) :: (.pointer (some ⟨b+1,2,none⟩)) :: (.slice (some ⟨gd,od,none⟩) m cd) :: (.int .i64 i) :: (.pointer (some ⟨gd,od+i * 3,none⟩)) :: (.agg #[.int .i64 yk,.int .i64 yn,.slice A2 m2 c2]) :: (.pointer (some ⟨g,0,none⟩)) :: u60 :: (.bool (!r)) :: s62 :: []:List Value).toArray,defers:=[] } w') :
  (Code.region id sm_ops.toArray true).wp Try.prog Q { tmps:=(s0 :: s1 :: (.pointer (some ⟨g,0,none⟩)) :: (.pointer (some ⟨b,0,none⟩)) :: (.pointer (some ⟨b+1,0,none⟩)) :: s5 :: s6 :: (.int .i64 i) :: s8 :: s9 :: s10 :: s11 :: s12 :: s13 :: s14 :: s15 :: s16 :: s17 :: s18 :: s19 :: s20 :: s21 :: s22 :: s23 :: s24 :: s25 :: s26 :: s27 :: s28 :: s29 :: s30 :: s31 :: s32 :: s33 :: s34 :: s35 :: s36 :: s37 :: s38 :: s39 :: s40 :: s41 :: s42 :: s43 :: s44 :: s45 :: s46 :: s47 :: s48 :: s49 :: s50 :: s51 :: s52 :: s53 :: s54 :: s55 :: s56 :: s57 :: s58 :: s59 :: s60 :: s61 :: s62 :: []:List Value).toArray,defers:=[] } w0:=by
 refine wp_region_est (by kernel_rfl) (est2 11 0 (fun k=>k=g) (fun _=>False)) sm_C (sm_F w0 g b i k1 n1 k2 n2 ga oa gd od m ca cd xk xn yk yn A1 A2 m1 c1 m2 c2 r cnt1) (est2_dis (fun k h1 h2=>h2)) (est2_range (fun k h=>by have:k=g:=h;have:=blk_lt hx3;omega) (fun k h=>h.elim)) (by rfl) (by kernel_rfl) (sm_obs w0.drew g b i k1 n1 k2 n2 ga oa gd od m ca cd xk xn yk yn A1 A2 m1 c1 m2 c2 r cnt1 hx3 hx4 hgb hga hgag hgd hgdg him hc0 hc1 hc2 hd0 hd1 hd2 hg hrec _ _ rfl rfl rfl rfl) ?_
 intro a w' O hd hs hb hf hf2 ha hsame
 have hl:=slots_eq (ops:=sm_ops.toArray) [(49,.pointer (some ⟨b,2,none⟩)),(50,.slice (some ⟨ga,oa,none⟩) m ca),(51,.int .i64 i),(52,.pointer (some ⟨ga,oa+i * 3,none⟩)),(53,.agg #[.int .i64 xk,.int .i64 xn,.slice A1 m1 c1]),(54,.pointer (some ⟨b+1,2,none⟩)),(55,.slice (some ⟨gd,od,none⟩) m cd),(56,.int .i64 i),(57,.pointer (some ⟨gd,od+i * 3,none⟩)),(58,.agg #[.int .i64 yk,.int .i64 yn,.slice A2 m2 c2]),(59,.pointer (some ⟨g,0,none⟩)),(60,a.tmps.getD 60 undef),(61,.bool (!r))] (show a.tmps.size=63 from hs) (fun i h=>hsame i h) ⟨(hf 0 _ 49 rfl rfl (by decide)).1,(hf 1 _ 50 rfl rfl (by decide)).1,(hf 2 _ 51 rfl rfl (by decide)).1,(hf 3 _ 52 rfl rfl (by decide)).1,(hf 4 _ 53 rfl rfl (by decide)).1,(hf 5 _ 54 rfl rfl (by decide)).1,(hf 6 _ 55 rfl rfl (by decide)).1,(hf 7 _ 56 rfl rfl (by decide)).1,(hf 8 _ 57 rfl rfl (by decide)).1,(hf 9 _ 58 rfl rfl (by decide)).1,(hf 10 _ 59 rfl rfl (by decide)).1,rfl,(hf 12 _ 61 rfl rfl (by decide)).1,trivial⟩ (by kernel_rfl)
 obtain ⟨tmps,defers⟩:=a
 obtain rfl:defers=[]:=hd
 have hl':tmps=_:=hl
 rw [hl']
 have hb':=est2_chg hb
 refine Eq.mp ?_ (hend w' (tmps.getD 60 undef) (O 11) ⟨hb'.os,hb'.tape,hb'.output,hb'.size,hb'.block⟩ (hf 11 _ 60 rfl rfl (by decide)).1 (hf 11 _ 60 rfl rfl (by decide)).2)
 kernel_rfl

end Go.Proofs.Ytcgkeolgflphiaa

namespace Go.Proofs.Ytcgkeolgflphiaa
open Go.RowKit Go.Proofs.YtcgkeolgflphiaaW.PrintWords Go.RegionInvYtcgkeolgflphiaa Go.RegionEYtcgkeolgflphiaa

structure SmB (w wr:World) (g:Nat) (s:Int) (k1 n1:Int) (V1:Value) (k2 n2:Int) (V2:Value):Prop where
 x3:wr.heap[w.heap.size]?=some (.cells #[.int .i64 k1,.int .i64 n1,V1] 24 (0,0))
 x4:wr.heap[w.heap.size+1]?=some (.cells #[.int .i64 k2,.int .i64 n2,V2] 24 (0,0))
 num:NumAt wr g s
 chg:Chg (fun k=>k=g) w wr
set_option maxRecDepth 4000 in
set_option maxHeartbeats 8000000 in
theorem ref_same (N:Nat):∀ (l:Lv),SizeOf.sizeOf l<N→∀ (l':Lv) (A A':Option Addr) (c c':Nat) (s:Nat) (g:Nat) (w:World),LvS w (fun k=>k≠g) A c l→LvS w (fun k=>k≠g) A' c' l'→NumAt w g s→s+sz l≤5000 →
  Calls Try.prog 112 #[lvV A c l,lvV A' c' l',.pointer (some ⟨g,0,none⟩)] w (SamePost w g (simB l l') ((s+sz l:Nat):Int)):=by
 induction N with
 | zero=>intro l h;omega
 | succ N ih =>
  rintro ⟨lk,ln,ks⟩ hN ⟨lk',ln',ks'⟩ A A' c c' s g w hin hin' hg hs
  have IH:=Ak ih
  have HIN:=Ak hin
  have HIN':=Ak hin'
  have HG:=Ak hg
  have hcell:=hg.cell
  have hfz:=blk_frozen hg 0
  have hlen:=hin.len
  have hlen':=hin'.len
  have hglt:=blk_lt hg
  have hgne:g≠w.heap.size:=Nat.ne_of_lt hglt
  have hgne1:g≠w.heap.size+1:=by omega
  rw [sz_mk] at hs ⊢
  clear ih hin hin' hg
  unfold lvV
  simp only [Lv.kind,Lv.num,Lv.kids] at hlen hlen' ⊢
  obtain ⟨m,hm⟩:∃ m,m=ks.length:=⟨_,rfl⟩
  obtain ⟨m',hm'⟩:∃ m',m'=ks'.length:=⟨_,rfl⟩
  rw [← hm] at hlen ⊢
  rw [← hm'] at hlen' ⊢
  have HM:=Ak hm
  have HM':=Ak hm'
  obtain ⟨W,hW⟩:∃ W,W=(((w.setCell ⟨g,0,none⟩ (.int .i64 ((s:Int)+1))).alloc (.cells #[.int .i64 lk,.int .i64 ln,.slice A m c] 24 (0,0))).alloc (.cells #[.int .i64 lk',.int .i64 ln',.slice A' m' c'] 24 (0,0))):=⟨_,rfl⟩
  have hst:SmB w W g ((s:Int)+1) lk ln (.slice A m c) lk' ln' (.slice A' m' c'):=by
   have hz:(w.setCell ⟨g,0,none⟩ (.int .i64 ((s:Int)+1))).heap.size=w.heap.size:=by simp [World.setCell]
   rw [hW]
   refine ⟨?_,?_,((HG.out.set _).alloc _).alloc _,chg_trans (chg_trans (chg_set _ _ _ _) (chg_alloc _ _ _)) (chg_alloc _ _ _)⟩
   ·have:=box0 (w.setCell ⟨g,0,none⟩ (.int .i64 ((s:Int)+1))) (.cells #[.int .i64 lk,.int .i64 ln,.slice A m c] 24 (0,0)) (.cells #[.int .i64 lk',.int .i64 ln',.slice A' m' c'] 24 (0,0))
    rwa [hz] at this
   ·have:=box1 (w.setCell ⟨g,0,none⟩ (.int .i64 ((s:Int)+1))) (.cells #[.int .i64 lk,.int .i64 ln,.slice A m c] 24 (0,0)) (.cells #[.int .i64 lk',.int .i64 ln',.slice A' m' c'] 24 (0,0))
    rwa [hz] at this
  have HST:=Ak hst
  clear hst hm hm'
  have hwr:IntKind.i64.wrap ((s:Int)+1)=(s:Int)+1:=by rw [Go.IntWalk.i64_left,Go.IntWalk.wrap64_in _ (by omega)]
  have hlt5:¬ (5000:Int)<(s:Int)+1:=by omega
  go_enter Try.func112,Try.ntmps112
  go_upto_region 2 with (fail)
  rw [← hW]
  clear hW hcell hfz
  have hcell:=HST.out.num.cell
  obtain ⟨p0,p1,p2,-,-,-⟩:=row3 HST.out.x3
  obtain ⟨q0,q1,q2,-,-,-⟩:=row3 HST.out.x4
  by_cases hk:lk=lk'
  ·have hkb:(lk != lk')=false:=by simp [hk]
   by_cases hn:lk=4∨ln=ln'
   ·by_cases hmm:m=m'
    ·have hmb:((m:Int) != (m':Int))=false:=by simp [hmm]
     have HE:=Ak (sim_ok (k:=lk) (n:=ln) (ks:=ks) (l:=.mk lk' ln' ks') ⟨hk,hn,by simp only [Lv.kids];rw [← HM.out,← HM'.out,hmm]⟩)
     go_upto_region 4 with (fail)
     go_cut [42] (fun v wr=>v=.bool false∧wr=W)
     case first =>
      by_cases hk4:lk=4
      ·have h4:(lk != 4)=false:=by simp [hk4]
       clear hk hn hk4 hmm
       go_wp2
       go_meet
       case rel=>exact ⟨rfl,by first | rfl | trivial⟩
      ·have h4:(lk != 4)=true:=by simp [hk4]
       have h5:(ln != ln')=false:=by simp;omega
       clear hk hn hk4 hmm
       go_wp2
       go_meet
       case rel=>exact ⟨rfl,by first | rfl | trivial⟩
     case rest =>
      obtain ⟨rfl,rfl⟩:=hcut
      subst hmm
      have HML:=Ak (show ks.length=ks'.length by rw [← HM.out,HM'.out])
      have hst0:SmB w wc g ((s+1+szs (ks.take 0):Nat):Int) lk ln (.slice A m c) lk' ln' (.slice A' m c'):=by
       rw [show ((s+1+szs (ks.take 0):Nat):Int)=(s:Int)+1 by rw [List.take_zero,szs_nil];omega]
       exact HST.out
      have HST0:=Ak hst0
      clear hk hn hkb hmb hcell HST hst0 q0 q1 q2
      go_wp2
      go_loopw [46] (fun i wr=>∃ (j:Nat),i=.int .i64 j∧j≤m∧Aside0 (∀ (i:Nat) (x y:Lv),i<j→ks[i]?=some x→ks'[i]?=some y→simB x y=true)∧Aside0 (SmB w wr g ((s+1+szs (ks.take j):Nat):Int) lk ln (.slice A m c) lk' ln' (.slice A' m c'))) (fun i _=>m - (intOf i).toNat)
      case atStart=>exact ⟨0,rfl,Nat.zero_le _,⟨fun i x y h=>by omega⟩,HST0⟩
      case round =>
       clear HST0 p0 p1 p2
       obtain ⟨j,rfl,hj,HALL,HST⟩:=hrel
       by_cases hlt:j<m
       ·obtain ⟨x,hx⟩:∃ x,ks[j]?=some x:=⟨_,List.getElem?_eq_getElem (by rw [← HM.out];exact hlt)⟩
        obtain ⟨y,hy⟩:∃ y,ks'[j]?=some y:=⟨_,List.getElem?_eq_getElem (by rw [← HM'.out];exact hlt)⟩
        have hinr:LvS wr (fun k=>k≠g) A c (.mk lk ln ks):=HIN.out.same fun k hk hz=>HST.out.chg.block k hz hk
        have hinr':LvS wr (fun k=>k≠g) A' c' (.mk lk' ln' ks'):=HIN'.out.same fun k hk hz=>HST.out.chg.block k hz hk
        obtain ⟨A1,c1,hcs,hxin⟩:=hinr.kid j x hx
        obtain ⟨A2,c2,hcs',hyin⟩:=hinr'.kid j y hy
        obtain ⟨ga,oa,rfl,hga⟩:=kid_ptr hcs
        obtain ⟨gd,od,rfl,hgd⟩:=kid_ptr hcs'
        have HC:=Ak (lit_kid hcs)
        have HC':=Ak (lit_kid hcs')
        have HX:=Ak hx
        have HY:=Ak hy
        have HXIN:=Ak hxin
        have HYIN:=Ak hyin
        have hzs:=szs_part hx
        have HZT:=Ak (szs_take hx)
        have hgal:=World.block_lt_of_cell? wr _ HC.out.1
        have hgdl:=World.block_lt_of_cell? wr _ HC'.out.1
        clear hinr hinr' hcs hcs' hx hy hxin hyin
        go_upto_region 9 with (fail)
        refine sm_region wr g w.heap.size j lk ln lk' ln' ga oa gd od m c c' x.kind x.num y.kind y.num A1 A2 x.kids.length c1 y.kids.length c2 (simB x y) ((s+1+szs (ks.take j)+sz x:Nat):Int) HST.out.x3 HST.out.x4 hglt hgal hga hgdl hgd hlt HC.out.1 HC.out.2.1 HC.out.2.2 HC'.out.1 HC'.out.2.1 HC'.out.2.2 HST.out.num (fun w5 hw5 hn5 hz5=>?_) ?_
        ·exact IH.out x (Nat.lt_of_lt_of_le (kid_small HX.out) (Nat.le_of_lt_succ hN)) y A1 A2 c1 c2 (s+1+szs (ks.take j)) g w5 (HXIN.out.same fun k hk hz=>hw5 k hz hk) (HYIN.out.same fun k hk hz=>hw5 k hz hk) hn5 (by omega)
        ·intro w' u60 O11 hch hf hown
         clear hown
         obtain ⟨-,-,s',hns,hsr⟩:=hf
         have hcw:Chg (fun k=>k=g) wr w':=hch.mono fun k h=>h.elim id False.elim
         have hst1:SmB w w' g s' lk ln (.slice (some ⟨ga,oa,none⟩) m c) lk' ln' (.slice (some ⟨gd,od,none⟩) m c'):=⟨hcw.still HST.out.x3 (by omega),hcw.still HST.out.x4 (by omega),hns,chg_trans HST.out.chg hcw⟩
         have HST1:=Ak hst1
         cases hsim:simB x y with
         | true =>
          have HS':=Ak (hsr hsim)
          have HALL':=Ak (show ∀ (i:Nat) (x y:Lv),i<j+1→ks[i]?=some x→ks'[i]?=some y→simB x y=true from fun i x2 y2 hi h1 h2=>by
           by_cases e:i=j
           ·subst e
            obtain rfl:x=x2:=Option.some.inj (HX.out.symm.trans h1)
            obtain rfl:y=y2:=Option.some.inj (HY.out.symm.trans h2)
            exact hsim
           ·exact HALL.out i x2 y2 (by omega) h1 h2)
          clear hch hns hsr hcw hst1 hsim hzs hgal hgdl hga hgd hwr hgne hgne1 hs hlt5
          go_wp2
          go_roundw
          case rel=>exact ⟨j+1,by go_num,by omega,HALL',⟨by have h:=HST1.out;rw [HS'.out] at h;rw [HZT.out,← Nat.add_assoc];exact h⟩⟩
          case measure=>(simp [intOf];try omega)
         | false =>
          have HF:=Ak (show simB (.mk lk ln ks) (.mk lk' ln' ks')=false by rw [HE.out];exact simKs_not HX.out HY.out hsim)
          clear hch hns hsr hcw hst1 hsim hzs hgal hgdl hga hgd hwr hgne hgne1 hs hlt5
          go_wp2
          go_ret
          exact ⟨by rw [HF.out];rfl,⟨_,HST1.out.num,fun h=>by rw [HF.out] at h;cases h⟩,HST1.out.chg⟩
       ·obtain rfl:j=m:=by omega
        have hlt':decide ((j:Int)<j)=false:=by simp
        have HF:=Ak (show simB (.mk lk ln ks) (.mk lk' ln' ks')=true by
         rw [HE.out]
         exact simKs_all HML.out fun i x y h1 h2=>HALL.out i x y (by rw [HM.out];exact (List.getElem?_eq_some_iff.1 h1).1) h1 h2)
        have HSZ:=Ak (show s+1+szs (ks.take j)=s+(szs ks+1) by rw [List.take_of_length_le (by rw [← HM.out];exact Nat.le_refl _)];omega)
        go_wp2
        go_ret
        exact ⟨by rw [HF.out];rfl,⟨_,HST.out.num,fun _=>by rw [HSZ.out]⟩,HST.out.chg⟩
    ·have hmb:((m:Int) != (m':Int))=true:=by simp;omega
     have HE:=Ak (sim_bad (k:=lk) (n:=ln) (ks:=ks) (l:=.mk lk' ln' ks') (fun h=>hmm (by have:=h.2.2;simp only [Lv.kids] at this;rw [HM.out,HM'.out];exact this)))
     by_cases hk4:lk=4
     ·have h4:(lk != 4)=false:=by simp [hk4]
      clear hk hn hk4 hmm
      go_wp2
      go_ret
      exact ⟨by rw [HE.out];rfl,⟨_,HST.out.num,fun h=>by rw [HE.out] at h;cases h⟩,HST.out.chg⟩
     ·have h4:(lk != 4)=true:=by simp [hk4]
      have h5:(ln != ln')=false:=by simp;omega
      clear hk hn hk4 hmm
      go_wp2
      go_ret
      exact ⟨by rw [HE.out];rfl,⟨_,HST.out.num,fun h=>by rw [HE.out] at h;cases h⟩,HST.out.chg⟩
   ·have h4:(lk != 4)=true:=by simp;omega
    have h5:(ln != ln')=true:=by simp;omega
    have HE:=Ak (sim_bad (k:=lk) (n:=ln) (ks:=ks) (l:=.mk lk' ln' ks') (fun h=>hn h.2.1))
    clear hk hn
    go_wp2
    go_ret
    exact ⟨by rw [HE.out];rfl,⟨_,HST.out.num,fun h=>by rw [HE.out] at h;cases h⟩,HST.out.chg⟩
  ·have hkb:(lk != lk')=true:=by simp [hk]
   have HE:=Ak (sim_bad (k:=lk) (n:=ln) (ks:=ks) (l:=.mk lk' ln' ks') (fun h=>hk h.1))
   clear hk
   go_wp2
   go_ret
   exact ⟨by rw [HE.out];rfl,⟨_,HST.out.num,fun h=>by rw [HE.out] at h;cases h⟩,HST.out.chg⟩
set_option maxHeartbeats 4000000 in
theorem refSame_calls (A A':Option Addr) (c c':Nat) (l l':Lv) (w:World) (hin:LvIn w w.heap.size A c l) (hin':LvIn w w.heap.size A' c' l') (hsz:sz l≤5000) :
  Calls Try.prog 94 #[lvV A c l,lvV A' c' l'] w fun e w'=>e=.returned (.bool (simB l l'))∧Below w.heap.size w w':=by
 have HIN:=Ak hin
 have HIN':=Ak hin'
 clear hin hin'
 unfold lvV
 go_enter Try.func94,Try.ntmps94
 obtain ⟨w3,hw3⟩:∃ w3,w3=(((w.alloc (.cells #[.int .i64 l.kind,.int .i64 l.num,.slice A l.kids.length c] 24 (0,0))).alloc (.cells #[.int .i64 l'.kind,.int .i64 l'.num,.slice A' l'.kids.length c'] 24 (0,0))).alloc (.cells #[.int .i64 0] 3 (0,0))):=⟨_,rfl⟩
 have hnew:NumAt w3 (w.heap.size+1+1) ((0:Nat):Int):=by
  have:=blk_new ((w.alloc (.cells #[.int .i64 l.kind,.int .i64 l.num,.slice A l.kids.length c] 24 (0,0))).alloc (.cells #[.int .i64 l'.kind,.int .i64 l'.num,.slice A' l'.kids.length c'] 24 (0,0))) (.cells #[.int .i64 0] 3 (0,0))
  rw [hw3]
  simpa [NumAt] using this
 have hb3:Below w.heap.size w w3:=by rw [hw3];exact below_alloc (below_alloc (below_alloc (Below.refl _ _) _) _) _
 have HNEW:=Ak hnew
 have HB3:=Ak hb3
 have HW3:=Ak hw3
 clear hnew hb3 hw3
 go_wp2_with (go_at_call 112;go_must (rw [← HW3.out];refine (ref_same _ l (Nat.lt_succ_self _) l' A A' c c' 0 (w.heap.size+1+1) w3 (LvS.mono (HIN.out.stay HB3.out) fun k hk _=>by omega) (LvS.mono (HIN'.out.stay HB3.out) fun k hk _=>by omega) HNEW.out (by omega)).mono ?_;rintro e w1 ⟨rfl,-,hc⟩;have HB:=Ak (Chg.trans_below HB3.out hc (fun _ e=>by omega) HB3.out.size);clear hc))
 go_ret
 exact ⟨rfl,HB.out⟩
end Go.Proofs.Ytcgkeolgflphiaa

namespace Go.Proofs.Ytcgkeolgflphiaa
open Go.RowKit Go.Proofs.YtcgkeolgflphiaaW.PrintWords Go.RegionInvYtcgkeolgflphiaa

def leafR (t:Tm):Bool:=decide (arZ t.kind<0∨(t.kids.length:Int)<arZ t.kind)
theorem nK_eq {t:Tm} (h:leafR t=false):(nK t:Int)=arZ t.kind∧0≤arZ t.kind∧arZ t.kind≤t.kids.length:=by
 have h':=of_decide_eq_false h
 unfold nK
 rw [if_neg (by omega)]
 omega
theorem nK_leaf {t:Tm} (h:leafR t=true):nK t=0:=by
 have h':=of_decide_eq_true h
 unfold nK
 split
 ·rfl
 ·omega
def sizeT (t:Tm):Nat:=1+((List.finRange (nK t)).map fun i=>sizeT (kidF t i)).sum
termination_by SizeOf.sizeOf t
decreasing_by exact kidF_lt t i
def depthT (t:Tm):Nat:=1+((List.finRange (nK t)).map fun i=>depthT (kidF t i)).foldr max 0
termination_by SizeOf.sizeOf t
decreasing_by exact kidF_lt t i
def okT (t:Tm):Prop:=sizeT t≤20000∧depthT t≤2000
instance (t:Tm):Decidable (okT t):=by unfold okT;infer_instance
def finC (r:Bool × Int):Bool × Int:=(r.1 && decide (r.2≤20000),r.2)
def cntP (t:Tm) (d n:Int):Bool × Int:=
 if 2000<d then (false,n+1) else if leafR t=true then (true,n+1) else
  finC (runL (fun (i:Fin (nK t)) m=>if 20000<m then (false,m) else cntP (kidF t i) (d+1) m) (List.finRange (nK t)) (n+1))
termination_by SizeOf.sizeOf t
decreasing_by exact kidF_lt t i
def kidsC (t:Tm) (d:Int) (i:Fin (nK t)) (m:Int):Bool × Int:=if 20000<m then (false,m) else cntP (kidF t i) (d+1) m
theorem cnt_deep {t:Tm} {d n:Int} (h:2000<d):cntP t d n=(false,n+1):=by rw [cntP,if_pos h]
theorem cnt_leaf {t:Tm} {d n:Int} (h:¬ 2000<d) (hl:leafR t=true):cntP t d n=(true,n+1):=by rw [cntP,if_neg h,if_pos hl]
theorem cnt_go {t:Tm} {d n:Int} (h:¬ 2000<d) (hl:leafR t=false):cntP t d n=finC (runL (kidsC t d) (List.finRange (nK t)) (n+1)):=by
 rw [cntP,if_neg h,if_neg (by rw [hl];decide)];rfl
theorem size_leaf {t:Tm} (h:nK t=0):sizeT t=1:=by
 rw [sizeT]
 have:List.finRange (nK t)=[]:=List.eq_nil_of_length_eq_zero (by rw [List.length_finRange];exact h)
 rw [this];rfl
theorem depth_leaf {t:Tm} (h:nK t=0):depthT t=1:=by
 rw [depthT]
 have:List.finRange (nK t)=[]:=List.eq_nil_of_length_eq_zero (by rw [List.length_finRange];exact h)
 rw [this];rfl
theorem max_le_of {l:List Nat} {b:Nat} (h:∀ x∈l,x≤b):l.foldr max 0≤b:=by
 induction l with
 | nil=>exact Nat.zero_le _
 | cons a r ih =>
  rw [List.foldr_cons]
  have h1:=h a (List.mem_cons_self ..)
  have h2:=ih fun x hx=>h x (List.mem_cons_of_mem _ hx)
  omega
theorem le_max_of {l:List Nat} {x:Nat} (h:x∈l):x≤l.foldr max 0:=by
 induction l with
 | nil=>cases h
 | cons a r ih =>
  rw [List.foldr_cons]
  rcases List.mem_cons.1 h with rfl | h
  ·omega
  ·have:=ih h;omega
theorem depth_kid (t:Tm) (i:Fin (nK t)):depthT (kidF t i)+1≤depthT t:=by
 rw [depthT.eq_def t]
 have:=le_max_of (l:=(List.finRange (nK t)).map fun i=>depthT (kidF t i)) (x:=depthT (kidF t i)) (List.mem_map.2 ⟨i,List.mem_finRange i,rfl⟩)
 omega
theorem size_pos (t:Tm):1≤sizeT t:=by rw [sizeT];omega
theorem le_sum_of {l:List Nat} {x:Nat} (h:x∈l):x≤l.sum:=by
 induction l with
 | nil=>cases h
 | cons a r ih =>
  rw [List.sum_cons]
  rcases List.mem_cons.1 h with rfl | h
  ·omega
  ·have:=ih h;omega
theorem size_kid (t:Tm) (i:Fin (nK t)):sizeT (kidF t i)+1≤sizeT t:=by
 rw [sizeT.eq_def t]
 have:=le_sum_of (l:=(List.finRange (nK t)).map fun i=>sizeT (kidF t i)) (x:=sizeT (kidF t i)) (List.mem_map.2 ⟨i,List.mem_finRange i,rfl⟩)
 omega
theorem okT.kid {t:Tm} (h:okT t) (i:Fin (nK t)):okT (kidF t i):=⟨by have:=size_kid t i;have:=h.1;omega,by have:=depth_kid t i;have:=h.2;omega⟩
theorem cnt_bd (N:Nat):∀ (t:Tm),SizeOf.sizeOf t<N→∀ (d n:Int),n≤20000→n+1≤(cntP t d n).2∧(cntP t d n).2≤20001:=by
 induction N with
 | zero=>intro t h;omega
 | succ N ih =>
  intro t hN d n hn
  by_cases h1:2000<d
  ·rw [cnt_deep h1];simp only;omega
  ·cases hl:leafR t with
   | true=>rw [cnt_leaf h1 hl];simp only;omega
   | false =>
    rw [cnt_go h1 hl]
    have key:∀ (xs:List (Fin (nK t))) (m:Int),m≤20001→m≤(runL (kidsC t d) xs m).2∧(runL (kidsC t d) xs m).2≤20001:=by
     intro xs
     induction xs with
     | nil=>intro m hm;exact ⟨Int.le_refl _,hm⟩
     | cons x r ihr =>
      intro m hm
      have h2:m≤(kidsC t d x m).2∧(kidsC t d x m).2≤20001:=by
       unfold kidsC
       by_cases hg:20000<m
       ·rw [if_pos hg];simp only;omega
       ·rw [if_neg hg]
        have:=ih (kidF t x) (by have:=kidF_lt t x;omega) (d+1) m (by omega)
        omega
      rw [runL]
      by_cases hc:(kidsC t d x m).1=true
      ·rw [if_pos hc]
       have:=ihr _ h2.2
       omega
      ·rw [if_neg hc];exact h2
    have:=key (List.finRange (nK t)) (n+1) (by omega)
    unfold finC
    simp only
    omega
theorem cnt_true (N:Nat):∀ (t:Tm),SizeOf.sizeOf t<N→∀ (d n:Int),(cntP t d n).1=true→d+depthT t≤2001∧(cntP t d n).2=n+sizeT t∧(leafR t=false→n+sizeT t≤20000):=by
 induction N with
 | zero=>intro t h;omega
 | succ N ih =>
  intro t hN d n h
  by_cases h1:2000<d
  ·rw [cnt_deep h1] at h;cases h
  ·cases hl:leafR t with
   | true =>
    rw [cnt_leaf h1 hl]
    have h2:=nK_leaf hl
    rw [size_leaf h2,depth_leaf h2]
    exact ⟨by omega,by simp,fun h=>by cases h⟩
   | false =>
    rw [cnt_go h1 hl] at h ⊢
    have key:∀ (xs:List (Fin (nK t))) (m:Int),(runL (kidsC t d) xs m).1=true→(runL (kidsC t d) xs m).2=m+((xs.map fun i=>sizeT (kidF t i)).sum:Nat)∧∀ x∈xs,d+1+depthT (kidF t x)≤2001:=by
     intro xs
     induction xs with
     | nil=>intro m _;exact ⟨by simp [runL],fun x hx=>by cases hx⟩
     | cons x r ihr =>
      intro m hm
      rw [runL] at hm ⊢
      by_cases hc:(kidsC t d x m).1=true
      ·rw [if_pos hc] at hm ⊢
       have hk:kidsC t d x m=cntP (kidF t x) (d+1) m:=by
        unfold kidsC at hc ⊢
        by_cases hg:20000<m
        ·rw [if_pos hg] at hc;cases hc
        ·rw [if_neg hg]
       have h3:=ihr _ hm
       have h4:=ih (kidF t x) (by have:=kidF_lt t x;omega) (d+1) m (by rw [← hk];exact hc)
       rw [hk] at h3 ⊢
       refine ⟨?_,fun y hy=>?_⟩
       ·rw [h3.1,h4.2.1,List.map_cons,List.sum_cons]
        push_cast
        omega
       ·rcases List.mem_cons.1 hy with rfl | hy
        ·exact h4.1
        ·exact h3.2 y hy
      ·rw [if_neg hc] at hm;cases hm
    unfold finC at h ⊢
    simp only [Bool.and_eq_true,decide_eq_true_eq] at h
    have h2:=key _ _ h.1
    have h3:d+depthT t≤2001:=by
     rw [depthT]
     have:((List.finRange (nK t)).map fun i=>depthT (kidF t i)).foldr max 0≤(2000 - d).toNat:=by
      refine max_le_of fun x hx=>?_
      obtain ⟨i,hi,rfl⟩:=List.mem_map.1 hx
      have:=h2.2 i hi
      omega
     omega
    have h4:(runL (kidsC t d) (List.finRange (nK t)) (n+1)).2=n+sizeT t:=by
     rw [h2.1,sizeT];push_cast;omega
    exact ⟨h3,h4,fun _=>by rw [← h4];exact h.2⟩
theorem cnt_ok (N:Nat):∀ (t:Tm),SizeOf.sizeOf t<N→∀ (d n:Int),d+depthT t≤2001→n+sizeT t≤20000→cntP t d n=(true,n+sizeT t):=by
 induction N with
 | zero=>intro t h;omega
 | succ N ih =>
  intro t hN d n hd hn
  have h1:¬ 2000<d:=by
   have:1≤depthT t:=by rw [depthT];omega
   omega
  cases hl:leafR t with
  | true=>rw [cnt_leaf h1 hl,size_leaf (nK_leaf hl)];rfl
  | false =>
   rw [cnt_go h1 hl]
   have key:∀ (xs:List (Fin (nK t))) (m:Int),m+((xs.map fun i=>sizeT (kidF t i)).sum:Nat)≤20000→runL (kidsC t d) xs m=(true,m+((xs.map fun i=>sizeT (kidF t i)).sum:Nat)):=by
    intro xs
    induction xs with
    | nil=>intro m _;simp [runL]
    | cons x r ihr =>
     intro m hm
     rw [List.map_cons,List.sum_cons] at hm ⊢
     have hp:=size_pos (kidF t x)
     have hk:kidsC t d x m=(true,m+sizeT (kidF t x)):=by
      unfold kidsC
      rw [if_neg (by push_cast at hm;omega)]
      exact ih (kidF t x) (by have:=kidF_lt t x;omega) (d+1) m (by have:=depth_kid t x;omega) (by push_cast at hm;omega)
     rw [runL,hk,if_pos rfl,ihr _ (by push_cast at hm ⊢;omega)]
     simp only [Prod.mk.injEq,true_and]
     push_cast
     omega
   have e:(1:Int)+(((List.finRange (nK t)).map fun i=>sizeT (kidF t i)).sum:Nat)=sizeT t:=by rw [sizeT.eq_def t];push_cast;rfl
   rw [key _ _ (by omega)]
   unfold finC
   simp only [Bool.true_and,Prod.mk.injEq,decide_eq_true_eq]
   omega
theorem great_ok (t:Tm):(cntP t 1 0).1=decide (okT t):=by
 by_cases h:okT t
 ·rw [cnt_ok _ t (Nat.lt_succ_self _) 1 0 (by have:=h.2;omega) (by have:=h.1;omega),decide_eq_true h]
 ·rw [decide_eq_false h]
  cases hc:(cntP t 1 0).1 with
  | false=>rfl
  | true =>
   have h1:=cnt_true _ t (Nat.lt_succ_self _) 1 0 hc
   refine absurd ⟨?_,by have:=h1.1;omega⟩ h
   cases hl:leafR t with
   | true=>rw [size_leaf (nK_leaf hl)];decide
   | false=>have:=h1.2.2 hl;omega
end Go.Proofs.Ytcgkeolgflphiaa
