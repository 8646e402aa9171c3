/-
  Merged: TMkR, LawMk, TmsIn.
-/
import Derived.Test.YtdboloabpjmgaaaMMakes3
namespace Go.Proofs.Ytdboloabpjmgaaa
open Go.RowKit Go.Proofs.YtdboloabpjmgaaaW.PrintWords Go.RegionInvYtdboloabpjmgaaa Go.RegionEYtdboloabpjmgaaa
set_option linter.unusedVariables false

def tk3_ops:List Oper:=[
 { dst:=some 46,op:=Go.Op.move (Go.Operand.tmp 0),type:=3,pos:= "law.go:22",after:=#[],guard:=none },
 { dst:=some 47,op:=Go.Op.call { callee:=Go.Callee.value (Go.Operand.func 14),args:=#[Go.Operand.tmp 46],argTypes:=#[3] },type:=28,pos:= "law.go:22",after:=#[{ on:=0,ground:=Go.Ground.data }],guard:=none },
 { dst:=some 48,op:=Go.Op.load 25 (Go.Operand.tmp 9),type:=25,pos:= "law.go:22",after:=#[],guard:=none },
 { dst:=some 49,op:=Go.Op.call { callee:=Go.Callee.value (Go.Operand.func 27),args:=#[Go.Operand.tmp 48],argTypes:=#[25] },type:=28,pos:= "law.go:22",after:=#[{ on:=2,ground:=Go.Ground.data },{ on:=1,ground:=Go.Ground.chain }],guard:=none },
 { dst:=some 50,op:=Go.Op.move (Go.Operand.tmp 5),type:=9,pos:= "law.go:22",after:=#[],guard:=none },
 { dst:=some 51,op:=Go.Op.move (Go.Operand.tmp 6),type:=23,pos:= "law.go:22",after:=#[],guard:=none },
 { dst:=some 52,op:=Go.Op.call { callee:=Go.Callee.value (Go.Operand.func 28),args:=#[Go.Operand.tmp 50,Go.Operand.tmp 51],argTypes:=#[9,23] },type:=28,pos:= "law.go:22",after:=#[{ on:=4,ground:=Go.Ground.data },{ on:=5,ground:=Go.Ground.data },{ on:=3,ground:=Go.Ground.chain }],guard:=none },
 { dst:=some 17,op:=Go.Op.alloc 28,type:=0,pos:= "law.go:22",after:=#[],guard:=none },
 { dst:=some 18,op:=Go.Op.alloc 28,type:=0,pos:= "law.go:22",after:=#[],guard:=none },
 { dst:=some 19,op:=Go.Op.alloc 28,type:=0,pos:= "law.go:22",after:=#[],guard:=none },
 { dst:=none,op:=Go.Op.store 28 (Go.Operand.tmp 17) (Go.Operand.tmp 47),type:=0,pos:= "law.go:22",after:=#[{ on:=7,ground:=Go.Ground.data },{ on:=1,ground:=Go.Ground.data },{ on:=6,ground:=Go.Ground.chain },{ on:=0,ground:=Go.Ground.phase },{ on:=1,ground:=Go.Ground.phase },{ on:=2,ground:=Go.Ground.textOnly Go.Departure.lateStores },{ on:=3,ground:=Go.Ground.textOnly Go.Departure.lateStoresUnsure },{ on:=4,ground:=Go.Ground.textOnly Go.Departure.lateStores },{ on:=5,ground:=Go.Ground.textOnly Go.Departure.lateStores },{ on:=6,ground:=Go.Ground.textOnly Go.Departure.lateStoresUnsure },{ on:=7,ground:=Go.Ground.phase },{ on:=8,ground:=Go.Ground.phase },{ on:=9,ground:=Go.Ground.phase }],guard:=none },
 { dst:=none,op:=Go.Op.store 28 (Go.Operand.tmp 18) (Go.Operand.tmp 49),type:=0,pos:= "law.go:22",after:=#[{ on:=8,ground:=Go.Ground.data },{ on:=3,ground:=Go.Ground.data },{ on:=10,ground:=Go.Ground.chain },{ on:=0,ground:=Go.Ground.phase },{ on:=1,ground:=Go.Ground.phase },{ on:=2,ground:=Go.Ground.phase },{ on:=3,ground:=Go.Ground.phase },{ on:=4,ground:=Go.Ground.textOnly Go.Departure.lateStores },{ on:=5,ground:=Go.Ground.textOnly Go.Departure.lateStores },{ on:=6,ground:=Go.Ground.textOnly Go.Departure.lateStoresUnsure },{ on:=7,ground:=Go.Ground.phase },{ on:=8,ground:=Go.Ground.phase },{ on:=9,ground:=Go.Ground.phase },{ on:=10,ground:=Go.Ground.phase }],guard:=none },
 { dst:=none,op:=Go.Op.store 28 (Go.Operand.tmp 19) (Go.Operand.tmp 52),type:=0,pos:= "law.go:22",after:=#[{ on:=9,ground:=Go.Ground.data },{ on:=6,ground:=Go.Ground.data },{ on:=11,ground:=Go.Ground.chain },{ on:=0,ground:=Go.Ground.phase },{ on:=1,ground:=Go.Ground.phase },{ on:=2,ground:=Go.Ground.phase },{ on:=3,ground:=Go.Ground.phase },{ on:=4,ground:=Go.Ground.phase },{ on:=5,ground:=Go.Ground.phase },{ on:=6,ground:=Go.Ground.phase },{ on:=7,ground:=Go.Ground.phase },{ on:=8,ground:=Go.Ground.phase },{ on:=9,ground:=Go.Ground.phase },{ on:=10,ground:=Go.Ground.phase },{ on:=11,ground:=Go.Ground.phase }],guard:=none }]
def tk3_F (w0:World) (B:Nat)  (n:Int) (g9:Nat) (A:Option Addr) (c:Nat) (l:Lv) (nm:ByteArray) (Bv:Option Addr) (nb cb:Nat) (ls:List Lv):Nat→(Nat→Value)→Value→World→(Nat→Prop)→Prop:=fun rix=>match rix with
 | 0=>fun _ v _ _=>v=.int .i64 n
 | 1=>fun τ v w O=>TmO (fun k=>k<B) (varT n) v w O
 | 2=>fun _ v _ _=>v=lvV A c l
 | 3=>fun τ v w O=>TmO (fun k=>k<B) (sortT l) v w O
 | 4=>fun _ v _ _=>v=.string nm
 | 5=>fun _ v _ _=>v=.slice Bv nb cb
 | 6=>fun τ v w O=>TmO (fun k=>k<B) (consT nm ls) v w O
 | 7=>fun τ v w O=>∃ p,v=.pointer (some ⟨p,0,none⟩)∧w.heap[p]?=some (tmO plz zeroT)∧O p
 | 8=>fun τ v w O=>∃ p,v=.pointer (some ⟨p,0,none⟩)∧w.heap[p]?=some (tmO plz zeroT)∧O p
 | 9=>fun τ v w O=>∃ p,v=.pointer (some ⟨p,0,none⟩)∧w.heap[p]?=some (tmO plz zeroT)∧O p
 | 10=>fun τ v w O=>∃ p,τ 17=.pointer (some ⟨p,0,none⟩)∧TmBox p (fun k=>k<B) (varT n) w O
 | 11=>fun τ v w O=>∃ p,τ 18=.pointer (some ⟨p,0,none⟩)∧TmBox p (fun k=>k<B) (sortT l) w O
 | 12=>fun τ v w O=>∃ p,τ 19=.pointer (some ⟨p,0,none⟩)∧TmBox p (fun k=>k<B) (consT nm ls) w O
 | _=>fun _ _ _ _=>True
def tk3_C:Nat→List Nat:=fun rix=>match rix with
 | 10=>[7,1]
 | 11=>[8,3]
 | 12=>[9,6]
 | _=>[]
theorem tk3_nw0:nwB tk3_ops.toArray 0=true:=by kernel_rfl
theorem tk3_nw5:nwB tk3_ops.toArray 5=true:=by kernel_rfl
theorem tk3_nw6:nwB tk3_ops.toArray 6=true:=by kernel_rfl
theorem tk3_nw9:nwB tk3_ops.toArray 9=true:=by kernel_rfl
set_option maxRecDepth 100000 in
set_option maxHeartbeats 8000000 in
theorem tk3_obs (w0:World) (B:Nat)  (n:Int) (g9:Nat) (A:Option Addr) (c:Nat) (l:Lv) (nm:ByteArray) (Bv:Option Addr) (nb cb:Nat) (ls:List Lv) (hB:B≤w0.heap.size)  (hx9:w0.heap[g9]?=some (.cells #[.int .i64 l.kind,.int .i64 l.num,.slice A l.kids.length c] 25 (0,0))) (hl:LvS w0 (fun k=>k<B) A c l) (hls:LvS w0 (fun k=>k<B) Bv cb (.mk 0 0 ls)) (hnb:nb=ls.length) (hnn:-9223372036854775808≤n∧n≤9223372036854775807) (hnm:nm.size≤140737488355328) (h40:ls.length * 40≤140737488355328) (Q:Exit→Act→World→Prop) (a0:Act) (hi0:a0.tmps.getD 0 undef=.int .i64 n) (hi5:a0.tmps.getD 5 undef=.string nm) (hi6:a0.tmps.getD 6 undef=.slice Bv nb cb) (hi9:a0.tmps.getD 9 undef=.pointer (some ⟨g9,0,none⟩)) :
  ObsE Try.prog tk3_ops.toArray Q (est2 0 0 (fun _=>False) (fun _=>False)) tk3_C (tk3_F w0 B  n g9 A c l nm Bv nb cb ls) a0 w0 tk3_ops.toArray.toList 0:=by
 have nw0:=tk3_nw0
 have nw5:=tk3_nw5
 have nw6:=tk3_nw6
 have nw9:=tk3_nw9
 refine ⟨?_,?_,?_,?_,?_,?_,?_,?_,?_,?_,?_,?_,?_,trivial⟩
 ·refine ⟨⟨fun τ=>stableE_det _,leans_not⟩,?_⟩
  intro a w O hk
  have e0:a.eval (.tmp 0)=.int .i64 n:=(hk.init 0 (initialB_of_nw nw0)).trans hi0
  exact toE (ob_move rfl e0 (wanted_none rfl) rfl)
 ·refine ⟨⟨fun τ=>stableE_tm (fun k hk'=>est2_fix (Nat.lt_of_lt_of_le hk' hB) (fun e=>e.elim) (fun e=>e.elim)),leans_not⟩,?_⟩
  intro a w O hk
  have e46:a.eval (.tmp 46)=.int .i64 n:=hk.fact 0 _ 46 rfl rfl rfl rfl
  have hfx:∀ k,k<B→w.heap[k]?=w0.heap[k]?:=fun k hk'=>hk.fix k ((fun k hk'=>est2_fix (Nat.lt_of_lt_of_le hk' hB) (fun e=>e.elim) (fun e=>e.elim)) k hk')
  have hsz:=hk.world.size
  have x9:=hk.world.still hx9 (fun ⟨_,h⟩=>h.elim And.right And.right)
  have yl:=LvS.same (w':=w) hl (fun k hk' _=>hfx k hk')
  have yls:=LvS.same (w':=w) hls (fun k hk' _=>hfx k hk')
  exact obE_tmCall #[.int .i64 n] rfl rfl rfl rfl (by simp only [List.map_cons,List.map_nil];rw [e46];try rfl) (wanted_none rfl) ((tvar_calls B n w hnn).mono fun e w' ⟨q9,h1,h2,h3⟩=>⟨q9,h1,h2.mono fun k h _=>h.elim (fun h=>.inl (.inl h)) .inr,h3⟩)
 ·refine ⟨⟨fun τ=>stableE_det _,leans_not⟩,?_⟩
  intro a w O hk
  have e9:a.eval (.tmp 9)=.pointer (some ⟨g9,0,none⟩):=(hk.init 9 (initialB_of_nw nw9)).trans hi9
  have hfx:∀ k,k<B→w.heap[k]?=w0.heap[k]?:=fun k hk'=>hk.fix k ((fun k hk'=>est2_fix (Nat.lt_of_lt_of_le hk' hB) (fun e=>e.elim) (fun e=>e.elim)) k hk')
  have hsz:=hk.world.size
  have x9:=hk.world.still hx9 (fun ⟨_,h⟩=>h.elim And.right And.right)
  have yl:=LvS.same (w':=w) hl (fun k hk' _=>hfx k hk')
  have yls:=LvS.same (w':=w) hls (fun k hk' _=>hfx k hk')
  exact obE_loadRow rfl e9 x9 Try.underlying25 rfl (by kernel_rfl) (wanted_none rfl) rfl
 ·refine ⟨⟨fun τ=>stableE_tm (fun k hk'=>est2_fix (Nat.lt_of_lt_of_le hk' hB) (fun e=>e.elim) (fun e=>e.elim)),leans_not⟩,?_⟩
  intro a w O hk
  have e48:a.eval (.tmp 48)=lvV A c l:=hk.fact 2 _ 48 rfl rfl rfl rfl
  have hfx:∀ k,k<B→w.heap[k]?=w0.heap[k]?:=fun k hk'=>hk.fix k ((fun k hk'=>est2_fix (Nat.lt_of_lt_of_le hk' hB) (fun e=>e.elim) (fun e=>e.elim)) k hk')
  have hsz:=hk.world.size
  have x9:=hk.world.still hx9 (fun ⟨_,h⟩=>h.elim And.right And.right)
  have yl:=LvS.same (w':=w) hl (fun k hk' _=>hfx k hk')
  have yls:=LvS.same (w':=w) hls (fun k hk' _=>hfx k hk')
  exact obE_tmCall #[lvV A c l] rfl rfl rfl rfl (by simp only [List.map_cons,List.map_nil];rw [e48];try rfl) (wanted_none rfl) ((tsort_calls B A c l w (Nat.le_trans hB hsz) yl).mono fun e w' ⟨q9,h1,h2,h3⟩=>⟨q9,h1,h2.mono fun k h _=>h.elim (fun h=>.inl (.inl h)) .inr,h3⟩)
 ·refine ⟨⟨fun τ=>stableE_det _,leans_not⟩,?_⟩
  intro a w O hk
  have e5:a.eval (.tmp 5)=.string nm:=(hk.init 5 (initialB_of_nw nw5)).trans hi5
  exact toE (ob_move rfl e5 (wanted_none rfl) rfl)
 ·refine ⟨⟨fun τ=>stableE_det _,leans_not⟩,?_⟩
  intro a w O hk
  have e6:a.eval (.tmp 6)=.slice Bv nb cb:=(hk.init 6 (initialB_of_nw nw6)).trans hi6
  exact toE (ob_move rfl e6 (wanted_none rfl) rfl)
 ·refine ⟨⟨fun τ=>stableE_tm (fun k hk'=>est2_fix (Nat.lt_of_lt_of_le hk' hB) (fun e=>e.elim) (fun e=>e.elim)),leans_not⟩,?_⟩
  intro a w O hk
  have e50:a.eval (.tmp 50)=.string nm:=hk.fact 4 _ 50 rfl rfl rfl rfl
  have e51:a.eval (.tmp 51)=.slice Bv nb cb:=hk.fact 5 _ 51 rfl rfl rfl rfl
  have hfx:∀ k,k<B→w.heap[k]?=w0.heap[k]?:=fun k hk'=>hk.fix k ((fun k hk'=>est2_fix (Nat.lt_of_lt_of_le hk' hB) (fun e=>e.elim) (fun e=>e.elim)) k hk')
  have hsz:=hk.world.size
  have x9:=hk.world.still hx9 (fun ⟨_,h⟩=>h.elim And.right And.right)
  have yl:=LvS.same (w':=w) hl (fun k hk' _=>hfx k hk')
  have yls:=LvS.same (w':=w) hls (fun k hk' _=>hfx k hk')
  exact obE_tmCall #[.string nm,.slice Bv nb cb] rfl rfl rfl rfl (by simp only [List.map_cons,List.map_nil];rw [e50,e51];try rfl) (wanted_none rfl) ((tconst_calls B nm Bv cb nb ls w (Nat.le_trans hB hsz) hnb hnm h40 yls).mono fun e w' ⟨q9,h1,h2,h3⟩=>⟨q9,h1,h2.mono fun k h _=>h.elim (fun h=>.inl (.inl h)) .inr,h3⟩)
 ·refine ⟨⟨fun τ=>stableE_ex fun p=>stableE_and stableE_pure (stableE_block _ _),leans_not⟩,?_⟩
  intro a w O hk
  have hfx:∀ k,k<B→w.heap[k]?=w0.heap[k]?:=fun k hk'=>hk.fix k ((fun k hk'=>est2_fix (Nat.lt_of_lt_of_le hk' hB) (fun e=>e.elim) (fun e=>e.elim)) k hk')
  have hsz:=hk.world.size
  have x9:=hk.world.still hx9 (fun ⟨_,h⟩=>h.elim And.right And.right)
  have yl:=LvS.same (w':=w) hl (fun k hk' _=>hfx k hk')
  have yls:=LvS.same (w':=w) hls (fun k hk' _=>hfx k hk')
  exact obE_res (w':=w.alloc (tmO plz zeroT)) (fun k=>k=w.heap.size) (wanted_none rfl) (by unfold execOp;simp only [];go_simp;rfl) (Chg.of_below ((Below.refl _ _).alloc (Nat.le_refl _) _)) ⟨_,rfl,blk_new _ _,rfl⟩ (fun k hk=>.inr ⟨by omega,by simp;omega⟩)
 ·refine ⟨⟨fun τ=>stableE_ex fun p=>stableE_and stableE_pure (stableE_block _ _),leans_not⟩,?_⟩
  intro a w O hk
  have hfx:∀ k,k<B→w.heap[k]?=w0.heap[k]?:=fun k hk'=>hk.fix k ((fun k hk'=>est2_fix (Nat.lt_of_lt_of_le hk' hB) (fun e=>e.elim) (fun e=>e.elim)) k hk')
  have hsz:=hk.world.size
  have x9:=hk.world.still hx9 (fun ⟨_,h⟩=>h.elim And.right And.right)
  have yl:=LvS.same (w':=w) hl (fun k hk' _=>hfx k hk')
  have yls:=LvS.same (w':=w) hls (fun k hk' _=>hfx k hk')
  exact obE_res (w':=w.alloc (tmO plz zeroT)) (fun k=>k=w.heap.size) (wanted_none rfl) (by unfold execOp;simp only [];go_simp;rfl) (Chg.of_below ((Below.refl _ _).alloc (Nat.le_refl _) _)) ⟨_,rfl,blk_new _ _,rfl⟩ (fun k hk=>.inr ⟨by omega,by simp;omega⟩)
 ·refine ⟨⟨fun τ=>stableE_ex fun p=>stableE_and stableE_pure (stableE_block _ _),leans_not⟩,?_⟩
  intro a w O hk
  have hfx:∀ k,k<B→w.heap[k]?=w0.heap[k]?:=fun k hk'=>hk.fix k ((fun k hk'=>est2_fix (Nat.lt_of_lt_of_le hk' hB) (fun e=>e.elim) (fun e=>e.elim)) k hk')
  have hsz:=hk.world.size
  have x9:=hk.world.still hx9 (fun ⟨_,h⟩=>h.elim And.right And.right)
  have yl:=LvS.same (w':=w) hl (fun k hk' _=>hfx k hk')
  have yls:=LvS.same (w':=w) hls (fun k hk' _=>hfx k hk')
  exact obE_res (w':=w.alloc (tmO plz zeroT)) (fun k=>k=w.heap.size) (wanted_none rfl) (by unfold execOp;simp only [];go_simp;rfl) (Chg.of_below ((Below.refl _ _).alloc (Nat.le_refl _) _)) ⟨_,rfl,blk_new _ _,rfl⟩ (fun k hk=>.inr ⟨by omega,by simp;omega⟩)
 ·refine ⟨⟨fun τ=>stableE_ex fun p v w w' O h hz hk=>⟨h.1,stableE_tmbox (fun k hk'=>est2_fix (Nat.lt_of_lt_of_le hk' hB) (fun e=>e.elim) (fun e=>e.elim)) v w w' O h.2 hz hk⟩,fun τ τ' h=>by have e:τ' 17=τ 17:=h 7 _ 17 rfl rfl rfl;show (fun v w O=>∃ p,τ 17=_∧TmBox p _ _ w O)=(fun v w O=>∃ p,τ' 17=_∧TmBox p _ _ w O);rw [e]⟩,?_⟩
  intro a w O hk
  have f17:=hk.fact 7 _ 17 rfl rfl rfl rfl
  have g17:=hk.owns 7 rfl rfl
  have f47:=hk.fact 1 _ 47 rfl rfl rfl rfl
  have g47:=hk.owns 1 rfl rfl
  have hfx:∀ k,k<B→w.heap[k]?=w0.heap[k]?:=fun k hk'=>hk.fix k ((fun k hk'=>est2_fix (Nat.lt_of_lt_of_le hk' hB) (fun e=>e.elim) (fun e=>e.elim)) k hk')
  have hsz:=hk.world.size
  have x9:=hk.world.still hx9 (fun ⟨_,h⟩=>h.elim And.right And.right)
  have yl:=LvS.same (w':=w) hl (fun k hk' _=>hfx k hk')
  have yls:=LvS.same (w':=w) hls (fun k hk' _=>hfx k hk')
  obtain ⟨p9,zp,xp,hOp⟩:=f17
  exact obE_tmPut (T:=fun k=>k<B) rfl (wanted_none rfl) zp xp f47 (.inl ⟨7,by simp [tk3_C],hOp⟩) (fun k h=>.inl ⟨1,by simp [tk3_C],h⟩) (fun h=>(g17 p9 hOp).2 ((fun k hk'=>est2_fix (Nat.lt_of_lt_of_le hk' hB) (fun e=>e.elim) (fun e=>e.elim)) p9 h)) (hk.apart 7 1 rfl rfl rfl rfl (by decide) p9 hOp) zp
 ·refine ⟨⟨fun τ=>stableE_ex fun p v w w' O h hz hk=>⟨h.1,stableE_tmbox (fun k hk'=>est2_fix (Nat.lt_of_lt_of_le hk' hB) (fun e=>e.elim) (fun e=>e.elim)) v w w' O h.2 hz hk⟩,fun τ τ' h=>by have e:τ' 18=τ 18:=h 8 _ 18 rfl rfl rfl;show (fun v w O=>∃ p,τ 18=_∧TmBox p _ _ w O)=(fun v w O=>∃ p,τ' 18=_∧TmBox p _ _ w O);rw [e]⟩,?_⟩
  intro a w O hk
  have f18:=hk.fact 8 _ 18 rfl rfl rfl rfl
  have g18:=hk.owns 8 rfl rfl
  have f49:=hk.fact 3 _ 49 rfl rfl rfl rfl
  have g49:=hk.owns 3 rfl rfl
  have hfx:∀ k,k<B→w.heap[k]?=w0.heap[k]?:=fun k hk'=>hk.fix k ((fun k hk'=>est2_fix (Nat.lt_of_lt_of_le hk' hB) (fun e=>e.elim) (fun e=>e.elim)) k hk')
  have hsz:=hk.world.size
  have x9:=hk.world.still hx9 (fun ⟨_,h⟩=>h.elim And.right And.right)
  have yl:=LvS.same (w':=w) hl (fun k hk' _=>hfx k hk')
  have yls:=LvS.same (w':=w) hls (fun k hk' _=>hfx k hk')
  obtain ⟨p9,zp,xp,hOp⟩:=f18
  exact obE_tmPut (T:=fun k=>k<B) rfl (wanted_none rfl) zp xp f49 (.inl ⟨8,by simp [tk3_C],hOp⟩) (fun k h=>.inl ⟨3,by simp [tk3_C],h⟩) (fun h=>(g18 p9 hOp).2 ((fun k hk'=>est2_fix (Nat.lt_of_lt_of_le hk' hB) (fun e=>e.elim) (fun e=>e.elim)) p9 h)) (hk.apart 8 3 rfl rfl rfl rfl (by decide) p9 hOp) zp
 ·refine ⟨⟨fun τ=>stableE_ex fun p v w w' O h hz hk=>⟨h.1,stableE_tmbox (fun k hk'=>est2_fix (Nat.lt_of_lt_of_le hk' hB) (fun e=>e.elim) (fun e=>e.elim)) v w w' O h.2 hz hk⟩,fun τ τ' h=>by have e:τ' 19=τ 19:=h 9 _ 19 rfl rfl rfl;show (fun v w O=>∃ p,τ 19=_∧TmBox p _ _ w O)=(fun v w O=>∃ p,τ' 19=_∧TmBox p _ _ w O);rw [e]⟩,?_⟩
  intro a w O hk
  have f19:=hk.fact 9 _ 19 rfl rfl rfl rfl
  have g19:=hk.owns 9 rfl rfl
  have f52:=hk.fact 6 _ 52 rfl rfl rfl rfl
  have g52:=hk.owns 6 rfl rfl
  have hfx:∀ k,k<B→w.heap[k]?=w0.heap[k]?:=fun k hk'=>hk.fix k ((fun k hk'=>est2_fix (Nat.lt_of_lt_of_le hk' hB) (fun e=>e.elim) (fun e=>e.elim)) k hk')
  have hsz:=hk.world.size
  have x9:=hk.world.still hx9 (fun ⟨_,h⟩=>h.elim And.right And.right)
  have yl:=LvS.same (w':=w) hl (fun k hk' _=>hfx k hk')
  have yls:=LvS.same (w':=w) hls (fun k hk' _=>hfx k hk')
  obtain ⟨p9,zp,xp,hOp⟩:=f19
  exact obE_tmPut (T:=fun k=>k<B) rfl (wanted_none rfl) zp xp f52 (.inl ⟨9,by simp [tk3_C],hOp⟩) (fun k h=>.inl ⟨6,by simp [tk3_C],h⟩) (fun h=>(g19 p9 hOp).2 ((fun k hk'=>est2_fix (Nat.lt_of_lt_of_le hk' hB) (fun e=>e.elim) (fun e=>e.elim)) p9 h)) (hk.apart 9 6 rfl rfl rfl rfl (by decide) p9 hOp) zp
set_option maxRecDepth 100000 in
set_option maxHeartbeats 8000000 in
theorem tk3_region {Q:Exit→Act→World→Prop} {id:Nat} (w0:World) (B:Nat)  (n:Int) (g9:Nat) (A:Option Addr) (c:Nat) (l:Lv) (nm:ByteArray) (Bv:Option Addr) (nb cb:Nat) (ls:List Lv) {s1 s2 s3 s4 s7 s8 s10 s11 s12 s13 s14 s15 s16 s17 s18 s19 s20 s21 s22 s23 s24 s25 s26 s27 s28 s29 s30 s31 s32 s33 s34 s35 s36 s37 s38 s39 s40 s41 s42 s43 s44 s45 s46 s47 s48 s49 s50 s51 s52 s53 s54 s55 s56 s57 s58 s59 s60 s61 s62 s63 s64 s65 s66 s67 s68 s69 s70 s71 s72 s73 s74 s75 s76 s77 s78 s79 s80 s81 s82 s83 s84 s85 s86 s87 s88 s89 s90 s91 s92 s93 s94 s95 s96 s97 s98 s99 s100 s101 s102 s103 s104 s105 s106 s107 s108 s109 s110 s111 s112 s113 s114 s115 s116 s117 s118 s119 s120 s121 s122 s123 s124 s125 s126 s127 s128 s129 s130 s131 s132 s133 s134 s135 s136 s137 s138 s139 s140 s141 s142 s143 s144 s145 s146 s147 s148 s149 s150 s151 s152 s153 s154 s155 s156 s157 s158 s159 s160 s161 s162 s163 s164 s165 s166 s167 s168 s169 s170 s171 s172 s173 s174 s175 s176 s177 s178 s179 s180 s181 s182 s183 s184 s185 s186 s187 s188 s189 s190 s191 s192 s193 s194 s195 s196 s197 s198 s199 s200 s201 s202 s203 s204 s205 s206 s207 s208 s209 s210 s211 s212 s213 s214 s215 s216 s217 s218 s219 s220 s221 s222 s223 s224 s225 s226 s227 s228 s229 s230 s231 s232:Value} (hB:B≤w0.heap.size)  (hx9:w0.heap[g9]?=some (.cells #[.int .i64 l.kind,.int .i64 l.num,.slice A l.kids.length c] 25 (0,0))) (hl:LvS w0 (fun k=>k<B) A c l) (hls:LvS w0 (fun k=>k<B) Bv cb (.mk 0 0 ls)) (hnb:nb=ls.length) (hnn:-9223372036854775808≤n∧n≤9223372036854775807) (hnm:nm.size≤140737488355328) (h40:ls.length * 40≤140737488355328)
  (hend:∀ (w':World) (u17:Value) (u18:Value) (u19:Value) (u47:Value) (u49:Value) (u52:Value) (v10:Value) (O10:Nat→Prop) (v11:Value) (O11:Nat→Prop) (v12:Value) (O12:Nat→Prop),Chg (fun k=>False∨False) w0 w'→(∃ p,u17=.pointer (some ⟨p,0,none⟩)∧TmBox p (fun k=>k<B) (varT n) w' O10)→(∀ k,O10 k→k<w'.heap.size∧¬ Fix w0 (est2 0 0 (fun _=>False) (fun _=>False)) k)→(∃ p,u18=.pointer (some ⟨p,0,none⟩)∧TmBox p (fun k=>k<B) (sortT l) w' O11)→(∀ k,O11 k→k<w'.heap.size∧¬ Fix w0 (est2 0 0 (fun _=>False) (fun _=>False)) k)→(∃ p,u19=.pointer (some ⟨p,0,none⟩)∧TmBox p (fun k=>k<B) (consT nm ls) w' O12)→(∀ k,O12 k→k<w'.heap.size∧¬ Fix w0 (est2 0 0 (fun _=>False) (fun _=>False)) k)→Q .normal { tmps:=((.int .i64 n) :: s1 :: s2 :: s3 :: s4 :: (.string nm) :: (.slice Bv nb cb) :: s7 :: s8 :: (.pointer (some ⟨g9,0,none⟩)) :: s10 :: s11 :: s12 :: s13 :: s14 :: s15 :: s16 :: u17 :: u18 :: u19 :: s20 :: s21 :: s22 :: s23 :: s24 :: s25 :: s26 :: s27 :: s28 :: s29 :: s30 :: s31 :: s32 :: s33 :: s34 :: s35 :: s36 :: s37 :: s38 :: s39 :: s40 :: s41 :: s42 :: s43 :: s44 :: s45 :: (.int .i64 n) :: u47 :: (lvV A c l) :: u49 :: (.string nm) :: (.slice Bv nb cb) :: u52 :: s53 :: s54 :: s55 :: s56 :: s57 :: s58 :: s59 :: s60 :: s61 :: s62 :: s63 :: s64 :: s65 :: s66 :: s67 :: s68 :: s69 :: s70 :: s71 :: s72 :: s73 :: s74 :: s75 :: s76 :: s77 :: s78 :: s79 :: s80 :: s81 :: s82 :: s83 :: s84 :: s85 :: s86 :: s87 :: s88 :: s89 :: s90 :: s91 :: s92 :: s93 :: s94 :: s95 :: s96 :: s97 :: s98 :: s99 :: s100 :: s101 :: s102 :: s103 :: s104 :: s105 :: s106 :: s107 :: s108 :: s109 :: s110 :: s111 :: s112 :: s113 :: s114 :: s115 :: s116 :: s117 :: s118 :: s119 :: s120 :: s121 :: s122 :: s123 :: s124 :: s125 :: s126 :: s127 :: s128 :: s129 :: s130 :: s131 :: s132 :: s133 :: s134 :: s135 :: s136 :: s137 :: s138 :: s139 :: s140 :: s141 :: s142 :: s143 :: s144 :: s145 :: s146 :: s147 :: s148 :: s149 :: s150 :: s151 :: s152 :: s153 :: s154 :: s155 :: s156 :: s157 :: s158 :: s159 :: s160 :: s161 :: s162 :: s163 :: s164 :: s165 :: s166 :: s167 :: s168 :: s169 :: s170 :: s171 :: s172 :: s173 :: s174 :: s175 :: s176 :: s177 :: s178 :: s179 :: s180 :: s181 :: s182 :: s183 :: s184 :: s185 :: s186 :: s187 :: s188 :: s189 :: s190 :: s191 :: s192 :: s193 :: s194 :: s195 :: s196 :: s197 :: s198 :: s199 :: s200 :: s201 :: s202 :: s203 :: s204 :: s205 :: s206 :: s207 :: s208 :: s209 :: s210 :: s211 :: s212 :: s213 :: s214 :: s215 :: s216 :: s217 :: s218 :: s219 :: s220 :: s221 :: s222 :: s223 :: s224 :: s225 :: s226 :: s227 :: s228 :: s229 :: s230 :: s231 :: s232 :: []:List Value).toArray,defers:=[] } w') :
  (Code.region id tk3_ops.toArray true).wp Try.prog Q { tmps:=((.int .i64 n) :: s1 :: s2 :: s3 :: s4 :: (.string nm) :: (.slice Bv nb cb) :: s7 :: s8 :: (.pointer (some ⟨g9,0,none⟩)) :: s10 :: s11 :: s12 :: s13 :: s14 :: s15 :: s16 :: s17 :: s18 :: s19 :: s20 :: s21 :: s22 :: s23 :: s24 :: s25 :: s26 :: s27 :: s28 :: s29 :: s30 :: s31 :: s32 :: s33 :: s34 :: s35 :: s36 :: s37 :: s38 :: s39 :: s40 :: s41 :: s42 :: s43 :: s44 :: s45 :: s46 :: s47 :: s48 :: s49 :: s50 :: s51 :: s52 :: s53 :: s54 :: s55 :: s56 :: s57 :: s58 :: s59 :: s60 :: s61 :: s62 :: s63 :: s64 :: s65 :: s66 :: s67 :: s68 :: s69 :: s70 :: s71 :: s72 :: s73 :: s74 :: s75 :: s76 :: s77 :: s78 :: s79 :: s80 :: s81 :: s82 :: s83 :: s84 :: s85 :: s86 :: s87 :: s88 :: s89 :: s90 :: s91 :: s92 :: s93 :: s94 :: s95 :: s96 :: s97 :: s98 :: s99 :: s100 :: s101 :: s102 :: s103 :: s104 :: s105 :: s106 :: s107 :: s108 :: s109 :: s110 :: s111 :: s112 :: s113 :: s114 :: s115 :: s116 :: s117 :: s118 :: s119 :: s120 :: s121 :: s122 :: s123 :: s124 :: s125 :: s126 :: s127 :: s128 :: s129 :: s130 :: s131 :: s132 :: s133 :: s134 :: s135 :: s136 :: s137 :: s138 :: s139 :: s140 :: s141 :: s142 :: s143 :: s144 :: s145 :: s146 :: s147 :: s148 :: s149 :: s150 :: s151 :: s152 :: s153 :: s154 :: s155 :: s156 :: s157 :: s158 :: s159 :: s160 :: s161 :: s162 :: s163 :: s164 :: s165 :: s166 :: s167 :: s168 :: s169 :: s170 :: s171 :: s172 :: s173 :: s174 :: s175 :: s176 :: s177 :: s178 :: s179 :: s180 :: s181 :: s182 :: s183 :: s184 :: s185 :: s186 :: s187 :: s188 :: s189 :: s190 :: s191 :: s192 :: s193 :: s194 :: s195 :: s196 :: s197 :: s198 :: s199 :: s200 :: s201 :: s202 :: s203 :: s204 :: s205 :: s206 :: s207 :: s208 :: s209 :: s210 :: s211 :: s212 :: s213 :: s214 :: s215 :: s216 :: s217 :: s218 :: s219 :: s220 :: s221 :: s222 :: s223 :: s224 :: s225 :: s226 :: s227 :: s228 :: s229 :: s230 :: s231 :: s232 :: []:List Value).toArray,defers:=[] } w0:=by
 refine wp_region_est (by kernel_rfl) (est2 0 0 (fun _=>False) (fun _=>False)) tk3_C (tk3_F w0 B  n g9 A c l nm Bv nb cb ls) (est2_dis (fun _ h _=>h)) (est2_range (fun _ h=>h.elim) (fun _ h=>h.elim)) (by rfl) (by kernel_rfl) (tk3_obs w0.drew B  n g9 A c l nm Bv nb cb ls hB  hx9 (LvS.same hl (fun _ _ _=>rfl)) (LvS.same hls (fun _ _ _=>rfl)) hnb hnn hnm h40 _ _ rfl rfl rfl rfl) ?_
 intro a w' O hd hs hb hf hf2 ha hsame
 have hl:=slots_eq (ops:=tk3_ops.toArray) [(17,a.tmps.getD 17 undef),(18,a.tmps.getD 18 undef),(19,a.tmps.getD 19 undef),(46,.int .i64 n),(47,a.tmps.getD 47 undef),(48,lvV A c l),(49,a.tmps.getD 49 undef),(50,.string nm),(51,.slice Bv nb cb),(52,a.tmps.getD 52 undef)] (show a.tmps.size=233 from hs) (fun i h=>hsame i h) ⟨rfl,rfl,rfl,(hf 0 _ 46 rfl rfl (by decide)).1,rfl,(hf 2 _ 48 rfl rfl (by decide)).1,rfl,(hf 4 _ 50 rfl rfl (by decide)).1,(hf 5 _ 51 rfl rfl (by decide)).1,rfl,trivial⟩ (by kernel_rfl)
 obtain ⟨tmps,defers⟩:=a
 obtain rfl:defers=[]:=hd
 have hl':tmps=_:=hl
 rw [hl']
 obtain ⟨⟨v10,hv10⟩,ho10⟩:=hf2 10 _ rfl rfl (by decide)
 obtain ⟨⟨v11,hv11⟩,ho11⟩:=hf2 11 _ rfl rfl (by decide)
 obtain ⟨⟨v12,hv12⟩,ho12⟩:=hf2 12 _ rfl rfl (by decide)
 have hb':=est2_chg hb
 refine Eq.mp ?_ (hend w' (tmps.getD 17 undef) (tmps.getD 18 undef) (tmps.getD 19 undef) (tmps.getD 47 undef) (tmps.getD 49 undef) (tmps.getD 52 undef) v10 (O 10) v11 (O 11) v12 (O 12) ⟨hb'.os,hb'.tape,hb'.output,hb'.size,hb'.block⟩ hv10 ho10 hv11 ho11 hv12 ho12)
 kernel_rfl

def tk6_ops:List Oper:=[
 { dst:=some 93,op:=Go.Op.load 28 (Go.Operand.tmp 10),type:=28,pos:= "law.go:26",after:=#[],guard:=none },
 { dst:=some 94,op:=Go.Op.load 28 (Go.Operand.tmp 11),type:=28,pos:= "law.go:26",after:=#[],guard:=none },
 { dst:=some 95,op:=Go.Op.call { callee:=Go.Callee.value (Go.Operand.func 30),args:=#[Go.Operand.tmp 93,Go.Operand.tmp 94],argTypes:=#[28,28] },type:=28,pos:= "law.go:26",after:=#[{ on:=0,ground:=Go.Ground.data },{ on:=1,ground:=Go.Ground.data }],guard:=none },
 { dst:=some 96,op:=Go.Op.load 28 (Go.Operand.tmp 10),type:=28,pos:= "law.go:26",after:=#[],guard:=none },
 { dst:=some 97,op:=Go.Op.load 28 (Go.Operand.tmp 11),type:=28,pos:= "law.go:26",after:=#[],guard:=none },
 { dst:=some 98,op:=Go.Op.call { callee:=Go.Callee.value (Go.Operand.func 31),args:=#[Go.Operand.tmp 96,Go.Operand.tmp 97],argTypes:=#[28,28] },type:=28,pos:= "law.go:26",after:=#[{ on:=3,ground:=Go.Ground.data },{ on:=4,ground:=Go.Ground.data },{ on:=2,ground:=Go.Ground.chain }],guard:=none },
 { dst:=some 99,op:=Go.Op.load 28 (Go.Operand.tmp 10),type:=28,pos:= "law.go:26",after:=#[],guard:=none },
 { dst:=some 100,op:=Go.Op.load 28 (Go.Operand.tmp 11),type:=28,pos:= "law.go:26",after:=#[],guard:=none },
 { dst:=some 101,op:=Go.Op.load 28 (Go.Operand.tmp 12),type:=28,pos:= "law.go:26",after:=#[],guard:=none },
 { dst:=some 102,op:=Go.Op.call { callee:=Go.Callee.value (Go.Operand.func 32),args:=#[Go.Operand.tmp 99,Go.Operand.tmp 100,Go.Operand.tmp 101],argTypes:=#[28,28,28] },type:=28,pos:= "law.go:26",after:=#[{ on:=6,ground:=Go.Ground.data },{ on:=7,ground:=Go.Ground.data },{ on:=8,ground:=Go.Ground.data },{ on:=5,ground:=Go.Ground.chain }],guard:=none },
 { dst:=some 20,op:=Go.Op.alloc 28,type:=0,pos:= "law.go:26",after:=#[],guard:=none },
 { dst:=some 21,op:=Go.Op.alloc 28,type:=0,pos:= "law.go:26",after:=#[],guard:=none },
 { dst:=some 22,op:=Go.Op.alloc 28,type:=0,pos:= "law.go:26",after:=#[],guard:=none },
 { dst:=none,op:=Go.Op.store 28 (Go.Operand.tmp 20) (Go.Operand.tmp 95),type:=0,pos:= "law.go:26",after:=#[{ on:=10,ground:=Go.Ground.data },{ on:=2,ground:=Go.Ground.data },{ on:=9,ground:=Go.Ground.chain },{ on:=0,ground:=Go.Ground.phase },{ on:=1,ground:=Go.Ground.phase },{ on:=2,ground:=Go.Ground.phase },{ on:=3,ground:=Go.Ground.textOnly Go.Departure.lateStores },{ on:=4,ground:=Go.Ground.textOnly Go.Departure.lateStores },{ on:=5,ground:=Go.Ground.textOnly Go.Departure.lateStoresUnsure },{ on:=6,ground:=Go.Ground.textOnly Go.Departure.lateStores },{ on:=7,ground:=Go.Ground.textOnly Go.Departure.lateStores },{ on:=8,ground:=Go.Ground.textOnly Go.Departure.lateStores },{ on:=9,ground:=Go.Ground.textOnly Go.Departure.lateStoresUnsure },{ on:=10,ground:=Go.Ground.phase },{ on:=11,ground:=Go.Ground.phase },{ on:=12,ground:=Go.Ground.phase }],guard:=none },
 { dst:=none,op:=Go.Op.store 28 (Go.Operand.tmp 21) (Go.Operand.tmp 98),type:=0,pos:= "law.go:26",after:=#[{ on:=11,ground:=Go.Ground.data },{ on:=5,ground:=Go.Ground.data },{ on:=13,ground:=Go.Ground.chain },{ on:=0,ground:=Go.Ground.phase },{ on:=1,ground:=Go.Ground.phase },{ on:=2,ground:=Go.Ground.phase },{ on:=3,ground:=Go.Ground.phase },{ on:=4,ground:=Go.Ground.phase },{ on:=5,ground:=Go.Ground.phase },{ on:=6,ground:=Go.Ground.textOnly Go.Departure.lateStores },{ on:=7,ground:=Go.Ground.textOnly Go.Departure.lateStores },{ on:=8,ground:=Go.Ground.textOnly Go.Departure.lateStores },{ on:=9,ground:=Go.Ground.textOnly Go.Departure.lateStoresUnsure },{ on:=10,ground:=Go.Ground.phase },{ on:=11,ground:=Go.Ground.phase },{ on:=12,ground:=Go.Ground.phase },{ on:=13,ground:=Go.Ground.phase }],guard:=none },
 { dst:=none,op:=Go.Op.store 28 (Go.Operand.tmp 22) (Go.Operand.tmp 102),type:=0,pos:= "law.go:26",after:=#[{ on:=12,ground:=Go.Ground.data },{ on:=9,ground:=Go.Ground.data },{ on:=14,ground:=Go.Ground.chain },{ on:=0,ground:=Go.Ground.phase },{ on:=1,ground:=Go.Ground.phase },{ on:=2,ground:=Go.Ground.phase },{ on:=3,ground:=Go.Ground.phase },{ on:=4,ground:=Go.Ground.phase },{ on:=5,ground:=Go.Ground.phase },{ on:=6,ground:=Go.Ground.phase },{ on:=7,ground:=Go.Ground.phase },{ on:=8,ground:=Go.Ground.phase },{ on:=9,ground:=Go.Ground.phase },{ on:=10,ground:=Go.Ground.phase },{ on:=11,ground:=Go.Ground.phase },{ on:=12,ground:=Go.Ground.phase },{ on:=13,ground:=Go.Ground.phase },{ on:=14,ground:=Go.Ground.phase }],guard:=none }]
def tk6_F (w0:World) (B:Nat) (ga:Nat) (pa:Pl) (ta:Tm) (gb:Nat) (pb:Pl) (tb:Tm) (gc:Nat) (pc:Pl) (tc:Tm):Nat→(Nat→Value)→Value→World→(Nat→Prop)→Prop:=fun rix=>match rix with
 | 0=>fun _ v _ _=>v=tmV pa ta
 | 1=>fun _ v _ _=>v=tmV pb tb
 | 2=>fun τ v w O=>TmO (fun k=>k<B) (madeT 3 [ta,tb]) v w O
 | 3=>fun _ v _ _=>v=tmV pa ta
 | 4=>fun _ v _ _=>v=tmV pb tb
 | 5=>fun τ v w O=>TmO (fun k=>k<B) (madeT 4 [ta,tb]) v w O
 | 6=>fun _ v _ _=>v=tmV pa ta
 | 7=>fun _ v _ _=>v=tmV pb tb
 | 8=>fun _ v _ _=>v=tmV pc tc
 | 9=>fun τ v w O=>TmO (fun k=>k<B) (madeT 5 [ta,tb,tc]) v w O
 | 10=>fun τ v w O=>∃ p,v=.pointer (some ⟨p,0,none⟩)∧w.heap[p]?=some (tmO plz zeroT)∧O p
 | 11=>fun τ v w O=>∃ p,v=.pointer (some ⟨p,0,none⟩)∧w.heap[p]?=some (tmO plz zeroT)∧O p
 | 12=>fun τ v w O=>∃ p,v=.pointer (some ⟨p,0,none⟩)∧w.heap[p]?=some (tmO plz zeroT)∧O p
 | 13=>fun τ v w O=>∃ p,τ 20=.pointer (some ⟨p,0,none⟩)∧TmBox p (fun k=>k<B) (madeT 3 [ta,tb]) w O
 | 14=>fun τ v w O=>∃ p,τ 21=.pointer (some ⟨p,0,none⟩)∧TmBox p (fun k=>k<B) (madeT 4 [ta,tb]) w O
 | 15=>fun τ v w O=>∃ p,τ 22=.pointer (some ⟨p,0,none⟩)∧TmBox p (fun k=>k<B) (madeT 5 [ta,tb,tc]) w O
 | _=>fun _ _ _ _=>True
def tk6_C:Nat→List Nat:=fun rix=>match rix with
 | 13=>[10,2]
 | 14=>[11,5]
 | 15=>[12,9]
 | _=>[]
theorem tk6_nw10:nwB tk6_ops.toArray 10=true:=by kernel_rfl
theorem tk6_nw11:nwB tk6_ops.toArray 11=true:=by kernel_rfl
theorem tk6_nw12:nwB tk6_ops.toArray 12=true:=by kernel_rfl
set_option maxRecDepth 100000 in
set_option maxHeartbeats 8000000 in
theorem tk6_obs (w0:World) (B:Nat) (ga:Nat) (pa:Pl) (ta:Tm) (gb:Nat) (pb:Pl) (tb:Tm) (gc:Nat) (pc:Pl) (tc:Tm) (hB:B≤w0.heap.size) (hx10:w0.heap[ga]?=some (tmO pa ta)) (hin10:TmIn w0 B pa ta) (hx11:w0.heap[gb]?=some (tmO pb tb)) (hin11:TmIn w0 B pb tb) (hx12:w0.heap[gc]?=some (tmO pc tc)) (hin12:TmIn w0 B pc tc) (Q:Exit→Act→World→Prop) (a0:Act) (hi10:a0.tmps.getD 10 undef=.pointer (some ⟨ga,0,none⟩)) (hi11:a0.tmps.getD 11 undef=.pointer (some ⟨gb,0,none⟩)) (hi12:a0.tmps.getD 12 undef=.pointer (some ⟨gc,0,none⟩)) :
  ObsE Try.prog tk6_ops.toArray Q (est2 0 0 (fun _=>False) (fun _=>False)) tk6_C (tk6_F w0 B ga pa ta gb pb tb gc pc tc) a0 w0 tk6_ops.toArray.toList 0:=by
 have nw10:=tk6_nw10
 have nw11:=tk6_nw11
 have nw12:=tk6_nw12
 refine ⟨?_,?_,?_,?_,?_,?_,?_,?_,?_,?_,?_,?_,?_,?_,?_,?_,trivial⟩
 ·refine ⟨⟨fun τ=>stableE_det _,leans_not⟩,?_⟩
  intro a w O hk
  have e10:a.eval (.tmp 10)=.pointer (some ⟨ga,0,none⟩):=(hk.init 10 (initialB_of_nw nw10)).trans hi10
  have x10:=hk.world.still hx10 (fun ⟨_,h⟩=>h.elim And.right And.right)
  have x11:=hk.world.still hx11 (fun ⟨_,h⟩=>h.elim And.right And.right)
  have x12:=hk.world.still hx12 (fun ⟨_,h⟩=>h.elim And.right And.right)
  have hfx:∀ k,k<B→w.heap[k]?=w0.heap[k]?:=fun k hk'=>hk.fix k ((fun k hk'=>est2_fix (Nat.lt_of_lt_of_le hk' hB) (fun e=>e.elim) (fun e=>e.elim)) k hk')
  have hsz:=hk.world.size
  have y10:=hin10.same (w':=w) (fun k hk' _=>hfx k hk')
  have y11:=hin11.same (w':=w) (fun k hk' _=>hfx k hk')
  have y12:=hin12.same (w':=w) (fun k hk' _=>hfx k hk')
  exact obE_loadRow rfl e10 x10 Try.underlying28 rfl (by kernel_rfl) (wanted_none rfl) rfl
 ·refine ⟨⟨fun τ=>stableE_det _,leans_not⟩,?_⟩
  intro a w O hk
  have e11:a.eval (.tmp 11)=.pointer (some ⟨gb,0,none⟩):=(hk.init 11 (initialB_of_nw nw11)).trans hi11
  have x10:=hk.world.still hx10 (fun ⟨_,h⟩=>h.elim And.right And.right)
  have x11:=hk.world.still hx11 (fun ⟨_,h⟩=>h.elim And.right And.right)
  have x12:=hk.world.still hx12 (fun ⟨_,h⟩=>h.elim And.right And.right)
  have hfx:∀ k,k<B→w.heap[k]?=w0.heap[k]?:=fun k hk'=>hk.fix k ((fun k hk'=>est2_fix (Nat.lt_of_lt_of_le hk' hB) (fun e=>e.elim) (fun e=>e.elim)) k hk')
  have hsz:=hk.world.size
  have y10:=hin10.same (w':=w) (fun k hk' _=>hfx k hk')
  have y11:=hin11.same (w':=w) (fun k hk' _=>hfx k hk')
  have y12:=hin12.same (w':=w) (fun k hk' _=>hfx k hk')
  exact obE_loadRow rfl e11 x11 Try.underlying28 rfl (by kernel_rfl) (wanted_none rfl) rfl
 ·refine ⟨⟨fun τ=>stableE_tm (fun k hk'=>est2_fix (Nat.lt_of_lt_of_le hk' hB) (fun e=>e.elim) (fun e=>e.elim)),leans_not⟩,?_⟩
  intro a w O hk
  have e93:a.eval (.tmp 93)=tmV pa ta:=hk.fact 0 _ 93 rfl rfl rfl rfl
  have e94:a.eval (.tmp 94)=tmV pb tb:=hk.fact 1 _ 94 rfl rfl rfl rfl
  have x10:=hk.world.still hx10 (fun ⟨_,h⟩=>h.elim And.right And.right)
  have x11:=hk.world.still hx11 (fun ⟨_,h⟩=>h.elim And.right And.right)
  have x12:=hk.world.still hx12 (fun ⟨_,h⟩=>h.elim And.right And.right)
  have hfx:∀ k,k<B→w.heap[k]?=w0.heap[k]?:=fun k hk'=>hk.fix k ((fun k hk'=>est2_fix (Nat.lt_of_lt_of_le hk' hB) (fun e=>e.elim) (fun e=>e.elim)) k hk')
  have hsz:=hk.world.size
  have y10:=hin10.same (w':=w) (fun k hk' _=>hfx k hk')
  have y11:=hin11.same (w':=w) (fun k hk' _=>hfx k hk')
  have y12:=hin12.same (w':=w) (fun k hk' _=>hfx k hk')
  exact obE_tmCall #[tmV pa ta,tmV pb tb] rfl rfl rfl rfl (by simp only [List.map_cons,List.map_nil];rw [e93,e94];try rfl) (wanted_none rfl) ((pi_calls B pa ta pb tb w (Nat.le_trans hB hsz) (TmS.mono y10 fun k h _=>h) (TmS.mono y11 fun k h _=>h)).mono fun e w' ⟨q9,h1,h2,h3⟩=>⟨q9,h1,h2.mono fun k h _=>h.elim (fun h=>.inl (.inl h)) .inr,h3⟩)
 ·refine ⟨⟨fun τ=>stableE_det _,leans_not⟩,?_⟩
  intro a w O hk
  have e10:a.eval (.tmp 10)=.pointer (some ⟨ga,0,none⟩):=(hk.init 10 (initialB_of_nw nw10)).trans hi10
  have x10:=hk.world.still hx10 (fun ⟨_,h⟩=>h.elim And.right And.right)
  have x11:=hk.world.still hx11 (fun ⟨_,h⟩=>h.elim And.right And.right)
  have x12:=hk.world.still hx12 (fun ⟨_,h⟩=>h.elim And.right And.right)
  have hfx:∀ k,k<B→w.heap[k]?=w0.heap[k]?:=fun k hk'=>hk.fix k ((fun k hk'=>est2_fix (Nat.lt_of_lt_of_le hk' hB) (fun e=>e.elim) (fun e=>e.elim)) k hk')
  have hsz:=hk.world.size
  have y10:=hin10.same (w':=w) (fun k hk' _=>hfx k hk')
  have y11:=hin11.same (w':=w) (fun k hk' _=>hfx k hk')
  have y12:=hin12.same (w':=w) (fun k hk' _=>hfx k hk')
  exact obE_loadRow rfl e10 x10 Try.underlying28 rfl (by kernel_rfl) (wanted_none rfl) rfl
 ·refine ⟨⟨fun τ=>stableE_det _,leans_not⟩,?_⟩
  intro a w O hk
  have e11:a.eval (.tmp 11)=.pointer (some ⟨gb,0,none⟩):=(hk.init 11 (initialB_of_nw nw11)).trans hi11
  have x10:=hk.world.still hx10 (fun ⟨_,h⟩=>h.elim And.right And.right)
  have x11:=hk.world.still hx11 (fun ⟨_,h⟩=>h.elim And.right And.right)
  have x12:=hk.world.still hx12 (fun ⟨_,h⟩=>h.elim And.right And.right)
  have hfx:∀ k,k<B→w.heap[k]?=w0.heap[k]?:=fun k hk'=>hk.fix k ((fun k hk'=>est2_fix (Nat.lt_of_lt_of_le hk' hB) (fun e=>e.elim) (fun e=>e.elim)) k hk')
  have hsz:=hk.world.size
  have y10:=hin10.same (w':=w) (fun k hk' _=>hfx k hk')
  have y11:=hin11.same (w':=w) (fun k hk' _=>hfx k hk')
  have y12:=hin12.same (w':=w) (fun k hk' _=>hfx k hk')
  exact obE_loadRow rfl e11 x11 Try.underlying28 rfl (by kernel_rfl) (wanted_none rfl) rfl
 ·refine ⟨⟨fun τ=>stableE_tm (fun k hk'=>est2_fix (Nat.lt_of_lt_of_le hk' hB) (fun e=>e.elim) (fun e=>e.elim)),leans_not⟩,?_⟩
  intro a w O hk
  have e96:a.eval (.tmp 96)=tmV pa ta:=hk.fact 3 _ 96 rfl rfl rfl rfl
  have e97:a.eval (.tmp 97)=tmV pb tb:=hk.fact 4 _ 97 rfl rfl rfl rfl
  have x10:=hk.world.still hx10 (fun ⟨_,h⟩=>h.elim And.right And.right)
  have x11:=hk.world.still hx11 (fun ⟨_,h⟩=>h.elim And.right And.right)
  have x12:=hk.world.still hx12 (fun ⟨_,h⟩=>h.elim And.right And.right)
  have hfx:∀ k,k<B→w.heap[k]?=w0.heap[k]?:=fun k hk'=>hk.fix k ((fun k hk'=>est2_fix (Nat.lt_of_lt_of_le hk' hB) (fun e=>e.elim) (fun e=>e.elim)) k hk')
  have hsz:=hk.world.size
  have y10:=hin10.same (w':=w) (fun k hk' _=>hfx k hk')
  have y11:=hin11.same (w':=w) (fun k hk' _=>hfx k hk')
  have y12:=hin12.same (w':=w) (fun k hk' _=>hfx k hk')
  exact obE_tmCall #[tmV pa ta,tmV pb tb] rfl rfl rfl rfl (by simp only [List.map_cons,List.map_nil];rw [e96,e97];try rfl) (wanted_none rfl) ((lam_calls B pa ta pb tb w (Nat.le_trans hB hsz) (TmS.mono y10 fun k h _=>h) (TmS.mono y11 fun k h _=>h)).mono fun e w' ⟨q9,h1,h2,h3⟩=>⟨q9,h1,h2.mono fun k h _=>h.elim (fun h=>.inl (.inl h)) .inr,h3⟩)
 ·refine ⟨⟨fun τ=>stableE_det _,leans_not⟩,?_⟩
  intro a w O hk
  have e10:a.eval (.tmp 10)=.pointer (some ⟨ga,0,none⟩):=(hk.init 10 (initialB_of_nw nw10)).trans hi10
  have x10:=hk.world.still hx10 (fun ⟨_,h⟩=>h.elim And.right And.right)
  have x11:=hk.world.still hx11 (fun ⟨_,h⟩=>h.elim And.right And.right)
  have x12:=hk.world.still hx12 (fun ⟨_,h⟩=>h.elim And.right And.right)
  have hfx:∀ k,k<B→w.heap[k]?=w0.heap[k]?:=fun k hk'=>hk.fix k ((fun k hk'=>est2_fix (Nat.lt_of_lt_of_le hk' hB) (fun e=>e.elim) (fun e=>e.elim)) k hk')
  have hsz:=hk.world.size
  have y10:=hin10.same (w':=w) (fun k hk' _=>hfx k hk')
  have y11:=hin11.same (w':=w) (fun k hk' _=>hfx k hk')
  have y12:=hin12.same (w':=w) (fun k hk' _=>hfx k hk')
  exact obE_loadRow rfl e10 x10 Try.underlying28 rfl (by kernel_rfl) (wanted_none rfl) rfl
 ·refine ⟨⟨fun τ=>stableE_det _,leans_not⟩,?_⟩
  intro a w O hk
  have e11:a.eval (.tmp 11)=.pointer (some ⟨gb,0,none⟩):=(hk.init 11 (initialB_of_nw nw11)).trans hi11
  have x10:=hk.world.still hx10 (fun ⟨_,h⟩=>h.elim And.right And.right)
  have x11:=hk.world.still hx11 (fun ⟨_,h⟩=>h.elim And.right And.right)
  have x12:=hk.world.still hx12 (fun ⟨_,h⟩=>h.elim And.right And.right)
  have hfx:∀ k,k<B→w.heap[k]?=w0.heap[k]?:=fun k hk'=>hk.fix k ((fun k hk'=>est2_fix (Nat.lt_of_lt_of_le hk' hB) (fun e=>e.elim) (fun e=>e.elim)) k hk')
  have hsz:=hk.world.size
  have y10:=hin10.same (w':=w) (fun k hk' _=>hfx k hk')
  have y11:=hin11.same (w':=w) (fun k hk' _=>hfx k hk')
  have y12:=hin12.same (w':=w) (fun k hk' _=>hfx k hk')
  exact obE_loadRow rfl e11 x11 Try.underlying28 rfl (by kernel_rfl) (wanted_none rfl) rfl
 ·refine ⟨⟨fun τ=>stableE_det _,leans_not⟩,?_⟩
  intro a w O hk
  have e12:a.eval (.tmp 12)=.pointer (some ⟨gc,0,none⟩):=(hk.init 12 (initialB_of_nw nw12)).trans hi12
  have x10:=hk.world.still hx10 (fun ⟨_,h⟩=>h.elim And.right And.right)
  have x11:=hk.world.still hx11 (fun ⟨_,h⟩=>h.elim And.right And.right)
  have x12:=hk.world.still hx12 (fun ⟨_,h⟩=>h.elim And.right And.right)
  have hfx:∀ k,k<B→w.heap[k]?=w0.heap[k]?:=fun k hk'=>hk.fix k ((fun k hk'=>est2_fix (Nat.lt_of_lt_of_le hk' hB) (fun e=>e.elim) (fun e=>e.elim)) k hk')
  have hsz:=hk.world.size
  have y10:=hin10.same (w':=w) (fun k hk' _=>hfx k hk')
  have y11:=hin11.same (w':=w) (fun k hk' _=>hfx k hk')
  have y12:=hin12.same (w':=w) (fun k hk' _=>hfx k hk')
  exact obE_loadRow rfl e12 x12 Try.underlying28 rfl (by kernel_rfl) (wanted_none rfl) rfl
 ·refine ⟨⟨fun τ=>stableE_tm (fun k hk'=>est2_fix (Nat.lt_of_lt_of_le hk' hB) (fun e=>e.elim) (fun e=>e.elim)),leans_not⟩,?_⟩
  intro a w O hk
  have e99:a.eval (.tmp 99)=tmV pa ta:=hk.fact 6 _ 99 rfl rfl rfl rfl
  have e100:a.eval (.tmp 100)=tmV pb tb:=hk.fact 7 _ 100 rfl rfl rfl rfl
  have e101:a.eval (.tmp 101)=tmV pc tc:=hk.fact 8 _ 101 rfl rfl rfl rfl
  have x10:=hk.world.still hx10 (fun ⟨_,h⟩=>h.elim And.right And.right)
  have x11:=hk.world.still hx11 (fun ⟨_,h⟩=>h.elim And.right And.right)
  have x12:=hk.world.still hx12 (fun ⟨_,h⟩=>h.elim And.right And.right)
  have hfx:∀ k,k<B→w.heap[k]?=w0.heap[k]?:=fun k hk'=>hk.fix k ((fun k hk'=>est2_fix (Nat.lt_of_lt_of_le hk' hB) (fun e=>e.elim) (fun e=>e.elim)) k hk')
  have hsz:=hk.world.size
  have y10:=hin10.same (w':=w) (fun k hk' _=>hfx k hk')
  have y11:=hin11.same (w':=w) (fun k hk' _=>hfx k hk')
  have y12:=hin12.same (w':=w) (fun k hk' _=>hfx k hk')
  exact obE_tmCall #[tmV pa ta,tmV pb tb,tmV pc tc] rfl rfl rfl rfl (by simp only [List.map_cons,List.map_nil];rw [e99,e100,e101];try rfl) (wanted_none rfl) ((let_calls B pa ta pb tb pc tc w (Nat.le_trans hB hsz) (TmS.mono y10 fun k h _=>h) (TmS.mono y11 fun k h _=>h) (TmS.mono y12 fun k h _=>h)).mono fun e w' ⟨q9,h1,h2,h3⟩=>⟨q9,h1,h2.mono fun k h _=>h.elim (fun h=>.inl (.inl h)) .inr,h3⟩)
 ·refine ⟨⟨fun τ=>stableE_ex fun p=>stableE_and stableE_pure (stableE_block _ _),leans_not⟩,?_⟩
  intro a w O hk
  have x10:=hk.world.still hx10 (fun ⟨_,h⟩=>h.elim And.right And.right)
  have x11:=hk.world.still hx11 (fun ⟨_,h⟩=>h.elim And.right And.right)
  have x12:=hk.world.still hx12 (fun ⟨_,h⟩=>h.elim And.right And.right)
  have hfx:∀ k,k<B→w.heap[k]?=w0.heap[k]?:=fun k hk'=>hk.fix k ((fun k hk'=>est2_fix (Nat.lt_of_lt_of_le hk' hB) (fun e=>e.elim) (fun e=>e.elim)) k hk')
  have hsz:=hk.world.size
  have y10:=hin10.same (w':=w) (fun k hk' _=>hfx k hk')
  have y11:=hin11.same (w':=w) (fun k hk' _=>hfx k hk')
  have y12:=hin12.same (w':=w) (fun k hk' _=>hfx k hk')
  exact obE_res (w':=w.alloc (tmO plz zeroT)) (fun k=>k=w.heap.size) (wanted_none rfl) (by unfold execOp;simp only [];go_simp;rfl) (Chg.of_below ((Below.refl _ _).alloc (Nat.le_refl _) _)) ⟨_,rfl,blk_new _ _,rfl⟩ (fun k hk=>.inr ⟨by omega,by simp;omega⟩)
 ·refine ⟨⟨fun τ=>stableE_ex fun p=>stableE_and stableE_pure (stableE_block _ _),leans_not⟩,?_⟩
  intro a w O hk
  have x10:=hk.world.still hx10 (fun ⟨_,h⟩=>h.elim And.right And.right)
  have x11:=hk.world.still hx11 (fun ⟨_,h⟩=>h.elim And.right And.right)
  have x12:=hk.world.still hx12 (fun ⟨_,h⟩=>h.elim And.right And.right)
  have hfx:∀ k,k<B→w.heap[k]?=w0.heap[k]?:=fun k hk'=>hk.fix k ((fun k hk'=>est2_fix (Nat.lt_of_lt_of_le hk' hB) (fun e=>e.elim) (fun e=>e.elim)) k hk')
  have hsz:=hk.world.size
  have y10:=hin10.same (w':=w) (fun k hk' _=>hfx k hk')
  have y11:=hin11.same (w':=w) (fun k hk' _=>hfx k hk')
  have y12:=hin12.same (w':=w) (fun k hk' _=>hfx k hk')
  exact obE_res (w':=w.alloc (tmO plz zeroT)) (fun k=>k=w.heap.size) (wanted_none rfl) (by unfold execOp;simp only [];go_simp;rfl) (Chg.of_below ((Below.refl _ _).alloc (Nat.le_refl _) _)) ⟨_,rfl,blk_new _ _,rfl⟩ (fun k hk=>.inr ⟨by omega,by simp;omega⟩)
 ·refine ⟨⟨fun τ=>stableE_ex fun p=>stableE_and stableE_pure (stableE_block _ _),leans_not⟩,?_⟩
  intro a w O hk
  have x10:=hk.world.still hx10 (fun ⟨_,h⟩=>h.elim And.right And.right)
  have x11:=hk.world.still hx11 (fun ⟨_,h⟩=>h.elim And.right And.right)
  have x12:=hk.world.still hx12 (fun ⟨_,h⟩=>h.elim And.right And.right)
  have hfx:∀ k,k<B→w.heap[k]?=w0.heap[k]?:=fun k hk'=>hk.fix k ((fun k hk'=>est2_fix (Nat.lt_of_lt_of_le hk' hB) (fun e=>e.elim) (fun e=>e.elim)) k hk')
  have hsz:=hk.world.size
  have y10:=hin10.same (w':=w) (fun k hk' _=>hfx k hk')
  have y11:=hin11.same (w':=w) (fun k hk' _=>hfx k hk')
  have y12:=hin12.same (w':=w) (fun k hk' _=>hfx k hk')
  exact obE_res (w':=w.alloc (tmO plz zeroT)) (fun k=>k=w.heap.size) (wanted_none rfl) (by unfold execOp;simp only [];go_simp;rfl) (Chg.of_below ((Below.refl _ _).alloc (Nat.le_refl _) _)) ⟨_,rfl,blk_new _ _,rfl⟩ (fun k hk=>.inr ⟨by omega,by simp;omega⟩)
 ·refine ⟨⟨fun τ=>stableE_ex fun p v w w' O h hz hk=>⟨h.1,stableE_tmbox (fun k hk'=>est2_fix (Nat.lt_of_lt_of_le hk' hB) (fun e=>e.elim) (fun e=>e.elim)) v w w' O h.2 hz hk⟩,fun τ τ' h=>by have e:τ' 20=τ 20:=h 10 _ 20 rfl rfl rfl;show (fun v w O=>∃ p,τ 20=_∧TmBox p _ _ w O)=(fun v w O=>∃ p,τ' 20=_∧TmBox p _ _ w O);rw [e]⟩,?_⟩
  intro a w O hk
  have f20:=hk.fact 10 _ 20 rfl rfl rfl rfl
  have g20:=hk.owns 10 rfl rfl
  have f95:=hk.fact 2 _ 95 rfl rfl rfl rfl
  have g95:=hk.owns 2 rfl rfl
  have x10:=hk.world.still hx10 (fun ⟨_,h⟩=>h.elim And.right And.right)
  have x11:=hk.world.still hx11 (fun ⟨_,h⟩=>h.elim And.right And.right)
  have x12:=hk.world.still hx12 (fun ⟨_,h⟩=>h.elim And.right And.right)
  have hfx:∀ k,k<B→w.heap[k]?=w0.heap[k]?:=fun k hk'=>hk.fix k ((fun k hk'=>est2_fix (Nat.lt_of_lt_of_le hk' hB) (fun e=>e.elim) (fun e=>e.elim)) k hk')
  have hsz:=hk.world.size
  have y10:=hin10.same (w':=w) (fun k hk' _=>hfx k hk')
  have y11:=hin11.same (w':=w) (fun k hk' _=>hfx k hk')
  have y12:=hin12.same (w':=w) (fun k hk' _=>hfx k hk')
  obtain ⟨p9,zp,xp,hOp⟩:=f20
  exact obE_tmPut (T:=fun k=>k<B) rfl (wanted_none rfl) zp xp f95 (.inl ⟨10,by simp [tk6_C],hOp⟩) (fun k h=>.inl ⟨2,by simp [tk6_C],h⟩) (fun h=>(g20 p9 hOp).2 ((fun k hk'=>est2_fix (Nat.lt_of_lt_of_le hk' hB) (fun e=>e.elim) (fun e=>e.elim)) p9 h)) (hk.apart 10 2 rfl rfl rfl rfl (by decide) p9 hOp) zp
 ·refine ⟨⟨fun τ=>stableE_ex fun p v w w' O h hz hk=>⟨h.1,stableE_tmbox (fun k hk'=>est2_fix (Nat.lt_of_lt_of_le hk' hB) (fun e=>e.elim) (fun e=>e.elim)) v w w' O h.2 hz hk⟩,fun τ τ' h=>by have e:τ' 21=τ 21:=h 11 _ 21 rfl rfl rfl;show (fun v w O=>∃ p,τ 21=_∧TmBox p _ _ w O)=(fun v w O=>∃ p,τ' 21=_∧TmBox p _ _ w O);rw [e]⟩,?_⟩
  intro a w O hk
  have f21:=hk.fact 11 _ 21 rfl rfl rfl rfl
  have g21:=hk.owns 11 rfl rfl
  have f98:=hk.fact 5 _ 98 rfl rfl rfl rfl
  have g98:=hk.owns 5 rfl rfl
  have x10:=hk.world.still hx10 (fun ⟨_,h⟩=>h.elim And.right And.right)
  have x11:=hk.world.still hx11 (fun ⟨_,h⟩=>h.elim And.right And.right)
  have x12:=hk.world.still hx12 (fun ⟨_,h⟩=>h.elim And.right And.right)
  have hfx:∀ k,k<B→w.heap[k]?=w0.heap[k]?:=fun k hk'=>hk.fix k ((fun k hk'=>est2_fix (Nat.lt_of_lt_of_le hk' hB) (fun e=>e.elim) (fun e=>e.elim)) k hk')
  have hsz:=hk.world.size
  have y10:=hin10.same (w':=w) (fun k hk' _=>hfx k hk')
  have y11:=hin11.same (w':=w) (fun k hk' _=>hfx k hk')
  have y12:=hin12.same (w':=w) (fun k hk' _=>hfx k hk')
  obtain ⟨p9,zp,xp,hOp⟩:=f21
  exact obE_tmPut (T:=fun k=>k<B) rfl (wanted_none rfl) zp xp f98 (.inl ⟨11,by simp [tk6_C],hOp⟩) (fun k h=>.inl ⟨5,by simp [tk6_C],h⟩) (fun h=>(g21 p9 hOp).2 ((fun k hk'=>est2_fix (Nat.lt_of_lt_of_le hk' hB) (fun e=>e.elim) (fun e=>e.elim)) p9 h)) (hk.apart 11 5 rfl rfl rfl rfl (by decide) p9 hOp) zp
 ·refine ⟨⟨fun τ=>stableE_ex fun p v w w' O h hz hk=>⟨h.1,stableE_tmbox (fun k hk'=>est2_fix (Nat.lt_of_lt_of_le hk' hB) (fun e=>e.elim) (fun e=>e.elim)) v w w' O h.2 hz hk⟩,fun τ τ' h=>by have e:τ' 22=τ 22:=h 12 _ 22 rfl rfl rfl;show (fun v w O=>∃ p,τ 22=_∧TmBox p _ _ w O)=(fun v w O=>∃ p,τ' 22=_∧TmBox p _ _ w O);rw [e]⟩,?_⟩
  intro a w O hk
  have f22:=hk.fact 12 _ 22 rfl rfl rfl rfl
  have g22:=hk.owns 12 rfl rfl
  have f102:=hk.fact 9 _ 102 rfl rfl rfl rfl
  have g102:=hk.owns 9 rfl rfl
  have x10:=hk.world.still hx10 (fun ⟨_,h⟩=>h.elim And.right And.right)
  have x11:=hk.world.still hx11 (fun ⟨_,h⟩=>h.elim And.right And.right)
  have x12:=hk.world.still hx12 (fun ⟨_,h⟩=>h.elim And.right And.right)
  have hfx:∀ k,k<B→w.heap[k]?=w0.heap[k]?:=fun k hk'=>hk.fix k ((fun k hk'=>est2_fix (Nat.lt_of_lt_of_le hk' hB) (fun e=>e.elim) (fun e=>e.elim)) k hk')
  have hsz:=hk.world.size
  have y10:=hin10.same (w':=w) (fun k hk' _=>hfx k hk')
  have y11:=hin11.same (w':=w) (fun k hk' _=>hfx k hk')
  have y12:=hin12.same (w':=w) (fun k hk' _=>hfx k hk')
  obtain ⟨p9,zp,xp,hOp⟩:=f22
  exact obE_tmPut (T:=fun k=>k<B) rfl (wanted_none rfl) zp xp f102 (.inl ⟨12,by simp [tk6_C],hOp⟩) (fun k h=>.inl ⟨9,by simp [tk6_C],h⟩) (fun h=>(g22 p9 hOp).2 ((fun k hk'=>est2_fix (Nat.lt_of_lt_of_le hk' hB) (fun e=>e.elim) (fun e=>e.elim)) p9 h)) (hk.apart 12 9 rfl rfl rfl rfl (by decide) p9 hOp) zp
set_option maxRecDepth 100000 in
set_option maxHeartbeats 8000000 in
theorem tk6_region {Q:Exit→Act→World→Prop} {id:Nat} (w0:World) (B:Nat) (ga:Nat) (pa:Pl) (ta:Tm) (gb:Nat) (pb:Pl) (tb:Tm) (gc:Nat) (pc:Pl) (tc:Tm) {s0 s1 s2 s3 s4 s5 s6 s7 s8 s9 s13 s14 s15 s16 s17 s18 s19 s20 s21 s22 s23 s24 s25 s26 s27 s28 s29 s30 s31 s32 s33 s34 s35 s36 s37 s38 s39 s40 s41 s42 s43 s44 s45 s46 s47 s48 s49 s50 s51 s52 s53 s54 s55 s56 s57 s58 s59 s60 s61 s62 s63 s64 s65 s66 s67 s68 s69 s70 s71 s72 s73 s74 s75 s76 s77 s78 s79 s80 s81 s82 s83 s84 s85 s86 s87 s88 s89 s90 s91 s92 s93 s94 s95 s96 s97 s98 s99 s100 s101 s102 s103 s104 s105 s106 s107 s108 s109 s110 s111 s112 s113 s114 s115 s116 s117 s118 s119 s120 s121 s122 s123 s124 s125 s126 s127 s128 s129 s130 s131 s132 s133 s134 s135 s136 s137 s138 s139 s140 s141 s142 s143 s144 s145 s146 s147 s148 s149 s150 s151 s152 s153 s154 s155 s156 s157 s158 s159 s160 s161 s162 s163 s164 s165 s166 s167 s168 s169 s170 s171 s172 s173 s174 s175 s176 s177 s178 s179 s180 s181 s182 s183 s184 s185 s186 s187 s188 s189 s190 s191 s192 s193 s194 s195 s196 s197 s198 s199 s200 s201 s202 s203 s204 s205 s206 s207 s208 s209 s210 s211 s212 s213 s214 s215 s216 s217 s218 s219 s220 s221 s222 s223 s224 s225 s226 s227 s228 s229 s230 s231 s232:Value} (hB:B≤w0.heap.size) (hx10:w0.heap[ga]?=some (tmO pa ta)) (hin10:TmIn w0 B pa ta) (hx11:w0.heap[gb]?=some (tmO pb tb)) (hin11:TmIn w0 B pb tb) (hx12:w0.heap[gc]?=some (tmO pc tc)) (hin12:TmIn w0 B pc tc)
  (hend:∀ (w':World) (u20:Value) (u21:Value) (u22:Value) (u95:Value) (u98:Value) (u102:Value) (v13:Value) (O13:Nat→Prop) (v14:Value) (O14:Nat→Prop) (v15:Value) (O15:Nat→Prop),Chg (fun k=>False∨False) w0 w'→(∃ p,u20=.pointer (some ⟨p,0,none⟩)∧TmBox p (fun k=>k<B) (madeT 3 [ta,tb]) w' O13)→(∀ k,O13 k→k<w'.heap.size∧¬ Fix w0 (est2 0 0 (fun _=>False) (fun _=>False)) k)→(∃ p,u21=.pointer (some ⟨p,0,none⟩)∧TmBox p (fun k=>k<B) (madeT 4 [ta,tb]) w' O14)→(∀ k,O14 k→k<w'.heap.size∧¬ Fix w0 (est2 0 0 (fun _=>False) (fun _=>False)) k)→(∃ p,u22=.pointer (some ⟨p,0,none⟩)∧TmBox p (fun k=>k<B) (madeT 5 [ta,tb,tc]) w' O15)→(∀ k,O15 k→k<w'.heap.size∧¬ Fix w0 (est2 0 0 (fun _=>False) (fun _=>False)) k)→Q .normal { tmps:=(s0 :: s1 :: s2 :: s3 :: s4 :: s5 :: s6 :: s7 :: s8 :: s9 :: (.pointer (some ⟨ga,0,none⟩)) :: (.pointer (some ⟨gb,0,none⟩)) :: (.pointer (some ⟨gc,0,none⟩)) :: s13 :: s14 :: s15 :: s16 :: s17 :: s18 :: s19 :: u20 :: u21 :: u22 :: s23 :: s24 :: s25 :: s26 :: s27 :: s28 :: s29 :: s30 :: s31 :: s32 :: s33 :: s34 :: s35 :: s36 :: s37 :: s38 :: s39 :: s40 :: s41 :: s42 :: s43 :: s44 :: s45 :: s46 :: s47 :: s48 :: s49 :: s50 :: s51 :: s52 :: s53 :: s54 :: s55 :: s56 :: s57 :: s58 :: s59 :: s60 :: s61 :: s62 :: s63 :: s64 :: s65 :: s66 :: s67 :: s68 :: s69 :: s70 :: s71 :: s72 :: s73 :: s74 :: s75 :: s76 :: s77 :: s78 :: s79 :: s80 :: s81 :: s82 :: s83 :: s84 :: s85 :: s86 :: s87 :: s88 :: s89 :: s90 :: s91 :: s92 :: (tmV pa ta) :: (tmV pb tb) :: u95 :: (tmV pa ta) :: (tmV pb tb) :: u98 :: (tmV pa ta) :: (tmV pb tb) :: (tmV pc tc) :: u102 :: s103 :: s104 :: s105 :: s106 :: s107 :: s108 :: s109 :: s110 :: s111 :: s112 :: s113 :: s114 :: s115 :: s116 :: s117 :: s118 :: s119 :: s120 :: s121 :: s122 :: s123 :: s124 :: s125 :: s126 :: s127 :: s128 :: s129 :: s130 :: s131 :: s132 :: s133 :: s134 :: s135 :: s136 :: s137 :: s138 :: s139 :: s140 :: s141 :: s142 :: s143 :: s144 :: s145 :: s146 :: s147 :: s148 :: s149 :: s150 :: s151 :: s152 :: s153 :: s154 :: s155 :: s156 :: s157 :: s158 :: s159 :: s160 :: s161 :: s162 :: s163 :: s164 :: s165 :: s166 :: s167 :: s168 :: s169 :: s170 :: s171 :: s172 :: s173 :: s174 :: s175 :: s176 :: s177 :: s178 :: s179 :: s180 :: s181 :: s182 :: s183 :: s184 :: s185 :: s186 :: s187 :: s188 :: s189 :: s190 :: s191 :: s192 :: s193 :: s194 :: s195 :: s196 :: s197 :: s198 :: s199 :: s200 :: s201 :: s202 :: s203 :: s204 :: s205 :: s206 :: s207 :: s208 :: s209 :: s210 :: s211 :: s212 :: s213 :: s214 :: s215 :: s216 :: s217 :: s218 :: s219 :: s220 :: s221 :: s222 :: s223 :: s224 :: s225 :: s226 :: s227 :: s228 :: s229 :: s230 :: s231 :: s232 :: []:List Value).toArray,defers:=[] } w') :
  (Code.region id tk6_ops.toArray true).wp Try.prog Q { tmps:=(s0 :: s1 :: s2 :: s3 :: s4 :: s5 :: s6 :: s7 :: s8 :: s9 :: (.pointer (some ⟨ga,0,none⟩)) :: (.pointer (some ⟨gb,0,none⟩)) :: (.pointer (some ⟨gc,0,none⟩)) :: s13 :: s14 :: s15 :: s16 :: s17 :: s18 :: s19 :: s20 :: s21 :: s22 :: s23 :: s24 :: s25 :: s26 :: s27 :: s28 :: s29 :: s30 :: s31 :: s32 :: s33 :: s34 :: s35 :: s36 :: s37 :: s38 :: s39 :: s40 :: s41 :: s42 :: s43 :: s44 :: s45 :: s46 :: s47 :: s48 :: s49 :: s50 :: s51 :: s52 :: s53 :: s54 :: s55 :: s56 :: s57 :: s58 :: s59 :: s60 :: s61 :: s62 :: s63 :: s64 :: s65 :: s66 :: s67 :: s68 :: s69 :: s70 :: s71 :: s72 :: s73 :: s74 :: s75 :: s76 :: s77 :: s78 :: s79 :: s80 :: s81 :: s82 :: s83 :: s84 :: s85 :: s86 :: s87 :: s88 :: s89 :: s90 :: s91 :: s92 :: s93 :: s94 :: s95 :: s96 :: s97 :: s98 :: s99 :: s100 :: s101 :: s102 :: s103 :: s104 :: s105 :: s106 :: s107 :: s108 :: s109 :: s110 :: s111 :: s112 :: s113 :: s114 :: s115 :: s116 :: s117 :: s118 :: s119 :: s120 :: s121 :: s122 :: s123 :: s124 :: s125 :: s126 :: s127 :: s128 :: s129 :: s130 :: s131 :: s132 :: s133 :: s134 :: s135 :: s136 :: s137 :: s138 :: s139 :: s140 :: s141 :: s142 :: s143 :: s144 :: s145 :: s146 :: s147 :: s148 :: s149 :: s150 :: s151 :: s152 :: s153 :: s154 :: s155 :: s156 :: s157 :: s158 :: s159 :: s160 :: s161 :: s162 :: s163 :: s164 :: s165 :: s166 :: s167 :: s168 :: s169 :: s170 :: s171 :: s172 :: s173 :: s174 :: s175 :: s176 :: s177 :: s178 :: s179 :: s180 :: s181 :: s182 :: s183 :: s184 :: s185 :: s186 :: s187 :: s188 :: s189 :: s190 :: s191 :: s192 :: s193 :: s194 :: s195 :: s196 :: s197 :: s198 :: s199 :: s200 :: s201 :: s202 :: s203 :: s204 :: s205 :: s206 :: s207 :: s208 :: s209 :: s210 :: s211 :: s212 :: s213 :: s214 :: s215 :: s216 :: s217 :: s218 :: s219 :: s220 :: s221 :: s222 :: s223 :: s224 :: s225 :: s226 :: s227 :: s228 :: s229 :: s230 :: s231 :: s232 :: []:List Value).toArray,defers:=[] } w0:=by
 refine wp_region_est (by kernel_rfl) (est2 0 0 (fun _=>False) (fun _=>False)) tk6_C (tk6_F w0 B ga pa ta gb pb tb gc pc tc) (est2_dis (fun _ h _=>h)) (est2_range (fun _ h=>h.elim) (fun _ h=>h.elim)) (by rfl) (by kernel_rfl) (tk6_obs w0.drew B ga pa ta gb pb tb gc pc tc hB hx10 (TmS.same hin10 (fun _ _ _=>rfl)) hx11 (TmS.same hin11 (fun _ _ _=>rfl)) hx12 (TmS.same hin12 (fun _ _ _=>rfl)) _ _ rfl rfl rfl) ?_
 intro a w' O hd hs hb hf hf2 ha hsame
 have hl:=slots_eq (ops:=tk6_ops.toArray) [(20,a.tmps.getD 20 undef),(21,a.tmps.getD 21 undef),(22,a.tmps.getD 22 undef),(93,tmV pa ta),(94,tmV pb tb),(95,a.tmps.getD 95 undef),(96,tmV pa ta),(97,tmV pb tb),(98,a.tmps.getD 98 undef),(99,tmV pa ta),(100,tmV pb tb),(101,tmV pc tc),(102,a.tmps.getD 102 undef)] (show a.tmps.size=233 from hs) (fun i h=>hsame i h) ⟨rfl,rfl,rfl,(hf 0 _ 93 rfl rfl (by decide)).1,(hf 1 _ 94 rfl rfl (by decide)).1,rfl,(hf 3 _ 96 rfl rfl (by decide)).1,(hf 4 _ 97 rfl rfl (by decide)).1,rfl,(hf 6 _ 99 rfl rfl (by decide)).1,(hf 7 _ 100 rfl rfl (by decide)).1,(hf 8 _ 101 rfl rfl (by decide)).1,rfl,trivial⟩ (by kernel_rfl)
 obtain ⟨tmps,defers⟩:=a
 obtain rfl:defers=[]:=hd
 have hl':tmps=_:=hl
 rw [hl']
 obtain ⟨⟨v13,hv13⟩,ho13⟩:=hf2 13 _ rfl rfl (by decide)
 obtain ⟨⟨v14,hv14⟩,ho14⟩:=hf2 14 _ rfl rfl (by decide)
 obtain ⟨⟨v15,hv15⟩,ho15⟩:=hf2 15 _ rfl rfl (by decide)
 have hb':=est2_chg hb
 refine Eq.mp ?_ (hend w' (tmps.getD 20 undef) (tmps.getD 21 undef) (tmps.getD 22 undef) (tmps.getD 95 undef) (tmps.getD 98 undef) (tmps.getD 102 undef) v13 (O 13) v14 (O 14) v15 (O 15) ⟨hb'.os,hb'.tape,hb'.output,hb'.size,hb'.block⟩ hv13 ho13 hv14 ho14 hv15 ho15)
 kernel_rfl

def tk7_ops:List Oper:=[
 { dst:=some 103,op:=Go.Op.fieldAddr 28 (Go.Operand.tmp 20) 0,type:=0,pos:= "law.go:27",after:=#[],guard:=none },
 { dst:=some 104,op:=Go.Op.load 3 (Go.Operand.tmp 103),type:=3,pos:= "law.go:27",after:=#[{ on:=0,ground:=Go.Ground.data }],guard:=none },
 { dst:=some 105,op:=Go.Op.binOp Go.BinOp.neq 3 (Go.Operand.tmp 104) (Go.Operand.const (Go.Value.int Go.IntKind.i64 3)) 3,type:=4,pos:= "law.go:27",after:=#[{ on:=1,ground:=Go.Ground.data }],guard:=none },
 { dst:=some 106,op:=Go.Op.move (Go.Operand.tmp 105),type:=4,pos:= "law.go:27",after:=#[{ on:=2,ground:=Go.Ground.data }],guard:=none },
 { dst:=some 107,op:=Go.Op.fieldAddr 28 (Go.Operand.tmp 21) 0,type:=0,pos:= "law.go:27",after:=#[{ on:=3,ground:=Go.Ground.guard }],guard:=some (3,false) },
 { dst:=some 108,op:=Go.Op.load 3 (Go.Operand.tmp 107),type:=3,pos:= "law.go:27",after:=#[{ on:=4,ground:=Go.Ground.data },{ on:=3,ground:=Go.Ground.guard }],guard:=some (3,false) },
 { dst:=some 109,op:=Go.Op.binOp Go.BinOp.neq 3 (Go.Operand.tmp 108) (Go.Operand.const (Go.Value.int Go.IntKind.i64 4)) 3,type:=4,pos:= "law.go:27",after:=#[{ on:=5,ground:=Go.Ground.data },{ on:=3,ground:=Go.Ground.guard }],guard:=some (3,false) },
 { dst:=some 110,op:=Go.Op.pick (Go.Operand.tmp 106) (Go.Operand.const (Go.Value.bool true)) (Go.Operand.tmp 109),type:=4,pos:= "law.go:27",after:=#[{ on:=3,ground:=Go.Ground.data },{ on:=6,ground:=Go.Ground.data }],guard:=none },
 { dst:=some 111,op:=Go.Op.move (Go.Operand.tmp 110),type:=4,pos:= "law.go:27",after:=#[{ on:=7,ground:=Go.Ground.data },{ on:=3,ground:=Go.Ground.chain }],guard:=none },
 { dst:=some 112,op:=Go.Op.fieldAddr 28 (Go.Operand.tmp 22) 0,type:=0,pos:= "law.go:27",after:=#[{ on:=8,ground:=Go.Ground.guard }],guard:=some (8,false) },
 { dst:=some 113,op:=Go.Op.load 3 (Go.Operand.tmp 112),type:=3,pos:= "law.go:27",after:=#[{ on:=9,ground:=Go.Ground.data },{ on:=8,ground:=Go.Ground.guard }],guard:=some (8,false) },
 { dst:=some 114,op:=Go.Op.binOp Go.BinOp.neq 3 (Go.Operand.tmp 113) (Go.Operand.const (Go.Value.int Go.IntKind.i64 5)) 3,type:=4,pos:= "law.go:27",after:=#[{ on:=10,ground:=Go.Ground.data },{ on:=8,ground:=Go.Ground.guard }],guard:=some (8,false) },
 { dst:=some 115,op:=Go.Op.pick (Go.Operand.tmp 111) (Go.Operand.const (Go.Value.bool true)) (Go.Operand.tmp 114),type:=4,pos:= "law.go:27",after:=#[{ on:=8,ground:=Go.Ground.data },{ on:=11,ground:=Go.Ground.data }],guard:=none },
 { dst:=some 116,op:=Go.Op.move (Go.Operand.tmp 115),type:=4,pos:= "law.go:27",after:=#[{ on:=12,ground:=Go.Ground.data },{ on:=8,ground:=Go.Ground.chain }],guard:=none },
 { dst:=some 117,op:=Go.Op.fieldAddr 28 (Go.Operand.tmp 20) 5,type:=0,pos:= "law.go:27",after:=#[{ on:=13,ground:=Go.Ground.guard }],guard:=some (13,false) },
 { dst:=some 118,op:=Go.Op.load 26 (Go.Operand.tmp 117),type:=26,pos:= "law.go:27",after:=#[{ on:=14,ground:=Go.Ground.data },{ on:=13,ground:=Go.Ground.guard }],guard:=some (13,false) },
 { dst:=some 119,op:=Go.Op.call { callee:=Go.Callee.builtin Go.Builtin.len,args:=#[Go.Operand.tmp 118],argTypes:=#[26] },type:=3,pos:= "law.go:27",after:=#[{ on:=15,ground:=Go.Ground.data },{ on:=13,ground:=Go.Ground.guard }],guard:=some (13,false) },
 { dst:=some 120,op:=Go.Op.binOp Go.BinOp.neq 3 (Go.Operand.tmp 119) (Go.Operand.const (Go.Value.int Go.IntKind.i64 2)) 3,type:=4,pos:= "law.go:27",after:=#[{ on:=16,ground:=Go.Ground.data },{ on:=13,ground:=Go.Ground.guard }],guard:=some (13,false) },
 { dst:=some 121,op:=Go.Op.pick (Go.Operand.tmp 116) (Go.Operand.const (Go.Value.bool true)) (Go.Operand.tmp 120),type:=4,pos:= "law.go:27",after:=#[{ on:=13,ground:=Go.Ground.data },{ on:=17,ground:=Go.Ground.data }],guard:=none },
 { dst:=some 122,op:=Go.Op.move (Go.Operand.tmp 121),type:=4,pos:= "law.go:27",after:=#[{ on:=18,ground:=Go.Ground.data },{ on:=13,ground:=Go.Ground.chain }],guard:=none },
 { dst:=some 123,op:=Go.Op.fieldAddr 28 (Go.Operand.tmp 21) 5,type:=0,pos:= "law.go:27",after:=#[{ on:=19,ground:=Go.Ground.guard }],guard:=some (19,false) },
 { dst:=some 124,op:=Go.Op.load 26 (Go.Operand.tmp 123),type:=26,pos:= "law.go:27",after:=#[{ on:=20,ground:=Go.Ground.data },{ on:=19,ground:=Go.Ground.guard }],guard:=some (19,false) },
 { dst:=some 125,op:=Go.Op.call { callee:=Go.Callee.builtin Go.Builtin.len,args:=#[Go.Operand.tmp 124],argTypes:=#[26] },type:=3,pos:= "law.go:27",after:=#[{ on:=21,ground:=Go.Ground.data },{ on:=19,ground:=Go.Ground.guard }],guard:=some (19,false) },
 { dst:=some 126,op:=Go.Op.binOp Go.BinOp.neq 3 (Go.Operand.tmp 125) (Go.Operand.const (Go.Value.int Go.IntKind.i64 2)) 3,type:=4,pos:= "law.go:27",after:=#[{ on:=22,ground:=Go.Ground.data },{ on:=19,ground:=Go.Ground.guard }],guard:=some (19,false) },
 { dst:=some 127,op:=Go.Op.pick (Go.Operand.tmp 122) (Go.Operand.const (Go.Value.bool true)) (Go.Operand.tmp 126),type:=4,pos:= "law.go:27",after:=#[{ on:=19,ground:=Go.Ground.data },{ on:=23,ground:=Go.Ground.data }],guard:=none },
 { dst:=some 128,op:=Go.Op.move (Go.Operand.tmp 127),type:=4,pos:= "law.go:27",after:=#[{ on:=24,ground:=Go.Ground.data },{ on:=19,ground:=Go.Ground.chain }],guard:=none },
 { dst:=some 129,op:=Go.Op.fieldAddr 28 (Go.Operand.tmp 22) 5,type:=0,pos:= "law.go:27",after:=#[{ on:=25,ground:=Go.Ground.guard }],guard:=some (25,false) },
 { dst:=some 130,op:=Go.Op.load 26 (Go.Operand.tmp 129),type:=26,pos:= "law.go:27",after:=#[{ on:=26,ground:=Go.Ground.data },{ on:=25,ground:=Go.Ground.guard }],guard:=some (25,false) },
 { dst:=some 131,op:=Go.Op.call { callee:=Go.Callee.builtin Go.Builtin.len,args:=#[Go.Operand.tmp 130],argTypes:=#[26] },type:=3,pos:= "law.go:27",after:=#[{ on:=27,ground:=Go.Ground.data },{ on:=25,ground:=Go.Ground.guard }],guard:=some (25,false) },
 { dst:=some 132,op:=Go.Op.binOp Go.BinOp.neq 3 (Go.Operand.tmp 131) (Go.Operand.const (Go.Value.int Go.IntKind.i64 3)) 3,type:=4,pos:= "law.go:27",after:=#[{ on:=28,ground:=Go.Ground.data },{ on:=25,ground:=Go.Ground.guard }],guard:=some (25,false) },
 { dst:=some 133,op:=Go.Op.pick (Go.Operand.tmp 128) (Go.Operand.const (Go.Value.bool true)) (Go.Operand.tmp 132),type:=4,pos:= "law.go:27",after:=#[{ on:=25,ground:=Go.Ground.data },{ on:=29,ground:=Go.Ground.data }],guard:=none },
 { dst:=some 134,op:=Go.Op.move (Go.Operand.tmp 133),type:=4,pos:= "law.go:27",after:=#[{ on:=30,ground:=Go.Ground.data },{ on:=25,ground:=Go.Ground.chain }],guard:=none },
 { dst:=some 135,op:=Go.Op.fieldAddr 28 (Go.Operand.tmp 20) 5,type:=0,pos:= "law.go:27",after:=#[{ on:=31,ground:=Go.Ground.guard }],guard:=some (31,false) },
 { dst:=some 136,op:=Go.Op.load 26 (Go.Operand.tmp 135),type:=26,pos:= "law.go:27",after:=#[{ on:=32,ground:=Go.Ground.data },{ on:=31,ground:=Go.Ground.guard }],guard:=some (31,false) },
 { dst:=some 137,op:=Go.Op.indexAddr 26 (Go.Operand.tmp 136) (Go.Operand.const (Go.Value.int Go.IntKind.i64 1)),type:=0,pos:= "law.go:27",after:=#[{ on:=33,ground:=Go.Ground.data },{ on:=31,ground:=Go.Ground.guard }],guard:=some (31,false) },
 { dst:=some 138,op:=Go.Op.load 28 (Go.Operand.tmp 137),type:=28,pos:= "law.go:27",after:=#[{ on:=34,ground:=Go.Ground.data },{ on:=31,ground:=Go.Ground.guard }],guard:=some (31,false) },
 { dst:=some 139,op:=Go.Op.load 28 (Go.Operand.tmp 11),type:=28,pos:= "law.go:27",after:=#[{ on:=31,ground:=Go.Ground.guard }],guard:=some (31,false) },
 { dst:=some 140,op:=Go.Op.call { callee:=Go.Callee.value (Go.Operand.func 22),args:=#[Go.Operand.tmp 138,Go.Operand.tmp 139],argTypes:=#[28,28] },type:=4,pos:= "law.go:27",after:=#[{ on:=35,ground:=Go.Ground.data },{ on:=36,ground:=Go.Ground.data },{ on:=31,ground:=Go.Ground.chain },{ on:=31,ground:=Go.Ground.guard }],guard:=some (31,false) },
 { dst:=some 141,op:=Go.Op.unOp Go.UnOp.not 4 (Go.Operand.tmp 140),type:=4,pos:= "law.go:27",after:=#[{ on:=37,ground:=Go.Ground.data },{ on:=31,ground:=Go.Ground.guard }],guard:=some (31,false) },
 { dst:=some 142,op:=Go.Op.pick (Go.Operand.tmp 134) (Go.Operand.const (Go.Value.bool true)) (Go.Operand.tmp 141),type:=4,pos:= "law.go:27",after:=#[{ on:=31,ground:=Go.Ground.data },{ on:=38,ground:=Go.Ground.data }],guard:=none },
 { dst:=some 143,op:=Go.Op.move (Go.Operand.tmp 142),type:=4,pos:= "law.go:27",after:=#[{ on:=39,ground:=Go.Ground.data },{ on:=37,ground:=Go.Ground.chain }],guard:=none },
 { dst:=some 144,op:=Go.Op.fieldAddr 28 (Go.Operand.tmp 21) 5,type:=0,pos:= "law.go:27",after:=#[{ on:=40,ground:=Go.Ground.guard }],guard:=some (40,false) },
 { dst:=some 145,op:=Go.Op.load 26 (Go.Operand.tmp 144),type:=26,pos:= "law.go:27",after:=#[{ on:=41,ground:=Go.Ground.data },{ on:=40,ground:=Go.Ground.guard }],guard:=some (40,false) },
 { dst:=some 146,op:=Go.Op.indexAddr 26 (Go.Operand.tmp 145) (Go.Operand.const (Go.Value.int Go.IntKind.i64 0)),type:=0,pos:= "law.go:27",after:=#[{ on:=42,ground:=Go.Ground.data },{ on:=40,ground:=Go.Ground.guard }],guard:=some (40,false) },
 { dst:=some 147,op:=Go.Op.load 28 (Go.Operand.tmp 146),type:=28,pos:= "law.go:27",after:=#[{ on:=43,ground:=Go.Ground.data },{ on:=40,ground:=Go.Ground.guard }],guard:=some (40,false) },
 { dst:=some 148,op:=Go.Op.load 28 (Go.Operand.tmp 10),type:=28,pos:= "law.go:27",after:=#[{ on:=40,ground:=Go.Ground.guard }],guard:=some (40,false) },
 { dst:=some 149,op:=Go.Op.call { callee:=Go.Callee.value (Go.Operand.func 22),args:=#[Go.Operand.tmp 147,Go.Operand.tmp 148],argTypes:=#[28,28] },type:=4,pos:= "law.go:27",after:=#[{ on:=44,ground:=Go.Ground.data },{ on:=45,ground:=Go.Ground.data },{ on:=40,ground:=Go.Ground.chain },{ on:=40,ground:=Go.Ground.guard }],guard:=some (40,false) },
 { dst:=some 150,op:=Go.Op.unOp Go.UnOp.not 4 (Go.Operand.tmp 149),type:=4,pos:= "law.go:27",after:=#[{ on:=46,ground:=Go.Ground.data },{ on:=40,ground:=Go.Ground.guard }],guard:=some (40,false) },
 { dst:=some 151,op:=Go.Op.pick (Go.Operand.tmp 143) (Go.Operand.const (Go.Value.bool true)) (Go.Operand.tmp 150),type:=4,pos:= "law.go:27",after:=#[{ on:=40,ground:=Go.Ground.data },{ on:=47,ground:=Go.Ground.data }],guard:=none },
 { dst:=some 152,op:=Go.Op.move (Go.Operand.tmp 151),type:=4,pos:= "law.go:27",after:=#[{ on:=48,ground:=Go.Ground.data },{ on:=46,ground:=Go.Ground.chain }],guard:=none },
 { dst:=some 153,op:=Go.Op.fieldAddr 28 (Go.Operand.tmp 22) 5,type:=0,pos:= "law.go:27",after:=#[{ on:=49,ground:=Go.Ground.guard }],guard:=some (49,false) },
 { dst:=some 154,op:=Go.Op.load 26 (Go.Operand.tmp 153),type:=26,pos:= "law.go:27",after:=#[{ on:=50,ground:=Go.Ground.data },{ on:=49,ground:=Go.Ground.guard }],guard:=some (49,false) },
 { dst:=some 155,op:=Go.Op.indexAddr 26 (Go.Operand.tmp 154) (Go.Operand.const (Go.Value.int Go.IntKind.i64 1)),type:=0,pos:= "law.go:27",after:=#[{ on:=51,ground:=Go.Ground.data },{ on:=49,ground:=Go.Ground.guard }],guard:=some (49,false) },
 { dst:=some 156,op:=Go.Op.load 28 (Go.Operand.tmp 155),type:=28,pos:= "law.go:27",after:=#[{ on:=52,ground:=Go.Ground.data },{ on:=49,ground:=Go.Ground.guard }],guard:=some (49,false) },
 { dst:=some 157,op:=Go.Op.load 28 (Go.Operand.tmp 11),type:=28,pos:= "law.go:27",after:=#[{ on:=49,ground:=Go.Ground.guard }],guard:=some (49,false) },
 { dst:=some 158,op:=Go.Op.call { callee:=Go.Callee.value (Go.Operand.func 22),args:=#[Go.Operand.tmp 156,Go.Operand.tmp 157],argTypes:=#[28,28] },type:=4,pos:= "law.go:27",after:=#[{ on:=53,ground:=Go.Ground.data },{ on:=54,ground:=Go.Ground.data },{ on:=49,ground:=Go.Ground.chain },{ on:=49,ground:=Go.Ground.guard }],guard:=some (49,false) },
 { dst:=some 159,op:=Go.Op.unOp Go.UnOp.not 4 (Go.Operand.tmp 158),type:=4,pos:= "law.go:27",after:=#[{ on:=55,ground:=Go.Ground.data },{ on:=49,ground:=Go.Ground.guard }],guard:=some (49,false) },
 { dst:=some 160,op:=Go.Op.pick (Go.Operand.tmp 152) (Go.Operand.const (Go.Value.bool true)) (Go.Operand.tmp 159),type:=4,pos:= "law.go:27",after:=#[{ on:=49,ground:=Go.Ground.data },{ on:=56,ground:=Go.Ground.data }],guard:=none },
 { dst:=some 161,op:=Go.Op.move (Go.Operand.tmp 160),type:=4,pos:= "law.go:27",after:=#[{ on:=57,ground:=Go.Ground.data },{ on:=55,ground:=Go.Ground.chain }],guard:=none },
 { dst:=some 162,op:=Go.Op.fieldAddr 28 (Go.Operand.tmp 22) 5,type:=0,pos:= "law.go:27",after:=#[{ on:=58,ground:=Go.Ground.guard }],guard:=some (58,false) },
 { dst:=some 163,op:=Go.Op.load 26 (Go.Operand.tmp 162),type:=26,pos:= "law.go:27",after:=#[{ on:=59,ground:=Go.Ground.data },{ on:=58,ground:=Go.Ground.guard }],guard:=some (58,false) },
 { dst:=some 164,op:=Go.Op.indexAddr 26 (Go.Operand.tmp 163) (Go.Operand.const (Go.Value.int Go.IntKind.i64 2)),type:=0,pos:= "law.go:27",after:=#[{ on:=60,ground:=Go.Ground.data },{ on:=58,ground:=Go.Ground.guard }],guard:=some (58,false) },
 { dst:=some 165,op:=Go.Op.load 28 (Go.Operand.tmp 164),type:=28,pos:= "law.go:27",after:=#[{ on:=61,ground:=Go.Ground.data },{ on:=58,ground:=Go.Ground.guard }],guard:=some (58,false) },
 { dst:=some 166,op:=Go.Op.load 28 (Go.Operand.tmp 12),type:=28,pos:= "law.go:27",after:=#[{ on:=58,ground:=Go.Ground.guard }],guard:=some (58,false) },
 { dst:=some 167,op:=Go.Op.call { callee:=Go.Callee.value (Go.Operand.func 22),args:=#[Go.Operand.tmp 165,Go.Operand.tmp 166],argTypes:=#[28,28] },type:=4,pos:= "law.go:27",after:=#[{ on:=62,ground:=Go.Ground.data },{ on:=63,ground:=Go.Ground.data },{ on:=58,ground:=Go.Ground.chain },{ on:=58,ground:=Go.Ground.guard }],guard:=some (58,false) },
 { dst:=some 168,op:=Go.Op.unOp Go.UnOp.not 4 (Go.Operand.tmp 167),type:=4,pos:= "law.go:27",after:=#[{ on:=64,ground:=Go.Ground.data },{ on:=58,ground:=Go.Ground.guard }],guard:=some (58,false) },
 { dst:=some 169,op:=Go.Op.pick (Go.Operand.tmp 161) (Go.Operand.const (Go.Value.bool true)) (Go.Operand.tmp 168),type:=4,pos:= "law.go:27",after:=#[{ on:=58,ground:=Go.Ground.data },{ on:=65,ground:=Go.Ground.data }],guard:=none }]
def tk7_F (w0:World) (B:Nat) (gp:Nat) (pp:Pl) (tp:Tm) (gm:Nat) (pm:Pl) (tm:Tm) (ge:Nat) (pe:Pl) (te:Tm) (ga:Nat) (pa:Pl) (ta:Tm) (gb:Nat) (pb:Pl) (tb:Tm) (gc:Nat) (pc:Pl) (tc:Tm) (dp op dm om de oe:Nat) (q1 q2 q3 q4:Pl) (k1 k2 k3 k4:Tm):Nat→(Nat→Value)→Value→World→(Nat→Prop)→Prop:=fun rix=>match rix with
 | 0=>fun _ v _ _=>v=.pointer (some ⟨gp,0,none⟩)
 | 1=>fun _ v _ _=>v=.int .i64 3
 | 2=>fun _ v _ _=>v=.bool false
 | 3=>fun _ v _ _=>v=.bool false
 | 4=>fun _ v _ _=>v=.pointer (some ⟨gm,0,none⟩)
 | 5=>fun _ v _ _=>v=.int .i64 4
 | 6=>fun _ v _ _=>v=.bool false
 | 7=>fun _ v _ _=>v=.bool false
 | 8=>fun _ v _ _=>v=.bool false
 | 9=>fun _ v _ _=>v=.pointer (some ⟨ge,0,none⟩)
 | 10=>fun _ v _ _=>v=.int .i64 5
 | 11=>fun _ v _ _=>v=.bool false
 | 12=>fun _ v _ _=>v=.bool false
 | 13=>fun _ v _ _=>v=.bool false
 | 14=>fun _ v _ _=>v=.pointer (some ⟨gp,7,none⟩)
 | 15=>fun _ v _ _=>v=.slice (some ⟨dp,op,none⟩) 2 pp.e
 | 16=>fun _ v _ _=>v=.int .i64 2
 | 17=>fun _ v _ _=>v=.bool false
 | 18=>fun _ v _ _=>v=.bool false
 | 19=>fun _ v _ _=>v=.bool false
 | 20=>fun _ v _ _=>v=.pointer (some ⟨gm,7,none⟩)
 | 21=>fun _ v _ _=>v=.slice (some ⟨dm,om,none⟩) 2 pm.e
 | 22=>fun _ v _ _=>v=.int .i64 2
 | 23=>fun _ v _ _=>v=.bool false
 | 24=>fun _ v _ _=>v=.bool false
 | 25=>fun _ v _ _=>v=.bool false
 | 26=>fun _ v _ _=>v=.pointer (some ⟨ge,7,none⟩)
 | 27=>fun _ v _ _=>v=.slice (some ⟨de,oe,none⟩) 3 pe.e
 | 28=>fun _ v _ _=>v=.int .i64 3
 | 29=>fun _ v _ _=>v=.bool false
 | 30=>fun _ v _ _=>v=.bool false
 | 31=>fun _ v _ _=>v=.bool false
 | 32=>fun _ v _ _=>v=.pointer (some ⟨gp,7,none⟩)
 | 33=>fun _ v _ _=>v=.slice (some ⟨dp,op,none⟩) 2 pp.e
 | 34=>fun _ v _ _=>v=.pointer (some ⟨dp,op+1 * 8,none⟩)
 | 35=>fun _ v _ _=>v=tmV q1 k1
 | 36=>fun _ v _ _=>v=tmV pb tb
 | 37=>fun _ v _ _=>v=.bool true
 | 38=>fun _ v _ _=>v=.bool false
 | 39=>fun _ v _ _=>v=.bool false
 | 40=>fun _ v _ _=>v=.bool false
 | 41=>fun _ v _ _=>v=.pointer (some ⟨gm,7,none⟩)
 | 42=>fun _ v _ _=>v=.slice (some ⟨dm,om,none⟩) 2 pm.e
 | 43=>fun _ v _ _=>v=.pointer (some ⟨dm,om,none⟩)
 | 44=>fun _ v _ _=>v=tmV q2 k2
 | 45=>fun _ v _ _=>v=tmV pa ta
 | 46=>fun _ v _ _=>v=.bool true
 | 47=>fun _ v _ _=>v=.bool false
 | 48=>fun _ v _ _=>v=.bool false
 | 49=>fun _ v _ _=>v=.bool false
 | 50=>fun _ v _ _=>v=.pointer (some ⟨ge,7,none⟩)
 | 51=>fun _ v _ _=>v=.slice (some ⟨de,oe,none⟩) 3 pe.e
 | 52=>fun _ v _ _=>v=.pointer (some ⟨de,oe+1 * 8,none⟩)
 | 53=>fun _ v _ _=>v=tmV q3 k3
 | 54=>fun _ v _ _=>v=tmV pb tb
 | 55=>fun _ v _ _=>v=.bool true
 | 56=>fun _ v _ _=>v=.bool false
 | 57=>fun _ v _ _=>v=.bool false
 | 58=>fun _ v _ _=>v=.bool false
 | 59=>fun _ v _ _=>v=.pointer (some ⟨ge,7,none⟩)
 | 60=>fun _ v _ _=>v=.slice (some ⟨de,oe,none⟩) 3 pe.e
 | 61=>fun _ v _ _=>v=.pointer (some ⟨de,oe+2 * 8,none⟩)
 | 62=>fun _ v _ _=>v=tmV q4 k4
 | 63=>fun _ v _ _=>v=tmV pc tc
 | 64=>fun _ v _ _=>v=.bool true
 | 65=>fun _ v _ _=>v=.bool false
 | 66=>fun _ v _ _=>v=.bool false
 | _=>fun _ _ _ _=>True
def tk7_C:Nat→List Nat:=fun rix=>match rix with
 | _=>[]
theorem tk7_nw10:nwB tk7_ops.toArray 10=true:=by kernel_rfl
theorem tk7_nw11:nwB tk7_ops.toArray 11=true:=by kernel_rfl
theorem tk7_nw12:nwB tk7_ops.toArray 12=true:=by kernel_rfl
theorem tk7_nw20:nwB tk7_ops.toArray 20=true:=by kernel_rfl
theorem tk7_nw21:nwB tk7_ops.toArray 21=true:=by kernel_rfl
theorem tk7_nw22:nwB tk7_ops.toArray 22=true:=by kernel_rfl
set_option maxRecDepth 100000 in
set_option maxHeartbeats 8000000 in
theorem tk7_obs (w0:World) (B:Nat) (gp:Nat) (pp:Pl) (tp:Tm) (gm:Nat) (pm:Pl) (tm:Tm) (ge:Nat) (pe:Pl) (te:Tm) (ga:Nat) (pa:Pl) (ta:Tm) (gb:Nat) (pb:Pl) (tb:Tm) (gc:Nat) (pc:Pl) (tc:Tm) (dp op dm om de oe:Nat) (q1 q2 q3 q4:Pl) (k1 k2 k3 k4:Tm) (hB:B≤w0.heap.size) (hx20:w0.heap[gp]?=some (tmO pp tp)) (hin20:TmIn w0 B pp tp) (hx21:w0.heap[gm]?=some (tmO pm tm)) (hin21:TmIn w0 B pm tm) (hx22:w0.heap[ge]?=some (tmO pe te)) (hin22:TmIn w0 B pe te) (hx10:w0.heap[ga]?=some (tmO pa ta)) (hin10:TmIn w0 B pa ta) (hx11:w0.heap[gb]?=some (tmO pb tb)) (hin11:TmIn w0 B pb tb) (hx12:w0.heap[gc]?=some (tmO pc tc)) (hin12:TmIn w0 B pc tc) (hpk:tp.kind=3) (hpl:tp.kids.length=2) (hpK:pp.K=some ⟨dp,op,none⟩) (hpe:2≤pp.e∧pp.e≤9223372036854775807) (hpd:dp<B) (hmk:tm.kind=4) (hml:tm.kids.length=2) (hmK:pm.K=some ⟨dm,om,none⟩) (hme:2≤pm.e∧pm.e≤9223372036854775807) (hmd:dm<B) (hek:te.kind=5) (hel:te.kids.length=3) (heK:pe.K=some ⟨de,oe,none⟩) (hee:3≤pe.e∧pe.e≤9223372036854775807) (hed:de<B) (c10:w0.cell? ⟨dp,op+1 * 8,none⟩=some (.int .i64 k1.kind)) (c11:w0.cell? ⟨dp,op+1 * 8+1,none⟩=some (.int .i64 k1.num)) (c12:w0.cell? ⟨dp,op+1 * 8+2,none⟩=some (.string k1.name)) (c13:w0.cell? ⟨dp,op+1 * 8+3,none⟩=some (.int .i64 k1.lv.kind)) (c14:w0.cell? ⟨dp,op+1 * 8+4,none⟩=some (.int .i64 k1.lv.num)) (c15:w0.cell? ⟨dp,op+1 * 8+5,none⟩=some (.slice q1.A k1.lv.kids.length q1.c)) (c16:w0.cell? ⟨dp,op+1 * 8+6,none⟩=some (.slice q1.B k1.ls.length q1.d)) (c17:w0.cell? ⟨dp,op+1 * 8+7,none⟩=some (.slice q1.K k1.kids.length q1.e)) (hk1:TmIn w0 B q1 k1) (co1:okT k1→okT tb→CmpOk k1 tb) (al1:alikeT k1 tb=true) (c20:w0.cell? ⟨dm,om,none⟩=some (.int .i64 k2.kind)) (c21:w0.cell? ⟨dm,om+1,none⟩=some (.int .i64 k2.num)) (c22:w0.cell? ⟨dm,om+2,none⟩=some (.string k2.name)) (c23:w0.cell? ⟨dm,om+3,none⟩=some (.int .i64 k2.lv.kind)) (c24:w0.cell? ⟨dm,om+4,none⟩=some (.int .i64 k2.lv.num)) (c25:w0.cell? ⟨dm,om+5,none⟩=some (.slice q2.A k2.lv.kids.length q2.c)) (c26:w0.cell? ⟨dm,om+6,none⟩=some (.slice q2.B k2.ls.length q2.d)) (c27:w0.cell? ⟨dm,om+7,none⟩=some (.slice q2.K k2.kids.length q2.e)) (hk2:TmIn w0 B q2 k2) (co2:okT k2→okT ta→CmpOk k2 ta) (al2:alikeT k2 ta=true) (c30:w0.cell? ⟨de,oe+1 * 8,none⟩=some (.int .i64 k3.kind)) (c31:w0.cell? ⟨de,oe+1 * 8+1,none⟩=some (.int .i64 k3.num)) (c32:w0.cell? ⟨de,oe+1 * 8+2,none⟩=some (.string k3.name)) (c33:w0.cell? ⟨de,oe+1 * 8+3,none⟩=some (.int .i64 k3.lv.kind)) (c34:w0.cell? ⟨de,oe+1 * 8+4,none⟩=some (.int .i64 k3.lv.num)) (c35:w0.cell? ⟨de,oe+1 * 8+5,none⟩=some (.slice q3.A k3.lv.kids.length q3.c)) (c36:w0.cell? ⟨de,oe+1 * 8+6,none⟩=some (.slice q3.B k3.ls.length q3.d)) (c37:w0.cell? ⟨de,oe+1 * 8+7,none⟩=some (.slice q3.K k3.kids.length q3.e)) (hk3:TmIn w0 B q3 k3) (co3:okT k3→okT tb→CmpOk k3 tb) (al3:alikeT k3 tb=true) (c40:w0.cell? ⟨de,oe+2 * 8,none⟩=some (.int .i64 k4.kind)) (c41:w0.cell? ⟨de,oe+2 * 8+1,none⟩=some (.int .i64 k4.num)) (c42:w0.cell? ⟨de,oe+2 * 8+2,none⟩=some (.string k4.name)) (c43:w0.cell? ⟨de,oe+2 * 8+3,none⟩=some (.int .i64 k4.lv.kind)) (c44:w0.cell? ⟨de,oe+2 * 8+4,none⟩=some (.int .i64 k4.lv.num)) (c45:w0.cell? ⟨de,oe+2 * 8+5,none⟩=some (.slice q4.A k4.lv.kids.length q4.c)) (c46:w0.cell? ⟨de,oe+2 * 8+6,none⟩=some (.slice q4.B k4.ls.length q4.d)) (c47:w0.cell? ⟨de,oe+2 * 8+7,none⟩=some (.slice q4.K k4.kids.length q4.e)) (hk4:TmIn w0 B q4 k4) (co4:okT k4→okT tc→CmpOk k4 tc) (al4:alikeT k4 tc=true) (Q:Exit→Act→World→Prop) (a0:Act) (hi10:a0.tmps.getD 10 undef=.pointer (some ⟨ga,0,none⟩)) (hi11:a0.tmps.getD 11 undef=.pointer (some ⟨gb,0,none⟩)) (hi12:a0.tmps.getD 12 undef=.pointer (some ⟨gc,0,none⟩)) (hi20:a0.tmps.getD 20 undef=.pointer (some ⟨gp,0,none⟩)) (hi21:a0.tmps.getD 21 undef=.pointer (some ⟨gm,0,none⟩)) (hi22:a0.tmps.getD 22 undef=.pointer (some ⟨ge,0,none⟩)) :
  ObsE Try.prog tk7_ops.toArray Q (est2 0 0 (fun _=>False) (fun _=>False)) tk7_C (tk7_F w0 B gp pp tp gm pm tm ge pe te ga pa ta gb pb tb gc pc tc dp op dm om de oe q1 q2 q3 q4 k1 k2 k3 k4) a0 w0 tk7_ops.toArray.toList 0:=by
 have nw10:=tk7_nw10
 have nw11:=tk7_nw11
 have nw12:=tk7_nw12
 have nw20:=tk7_nw20
 have nw21:=tk7_nw21
 have nw22:=tk7_nw22
 refine ⟨?_,?_,?_,?_,?_,?_,?_,?_,?_,?_,?_,?_,?_,?_,?_,?_,?_,?_,?_,?_,?_,?_,?_,?_,?_,?_,?_,?_,?_,?_,?_,?_,?_,?_,?_,?_,?_,?_,?_,?_,?_,?_,?_,?_,?_,?_,?_,?_,?_,?_,?_,?_,?_,?_,?_,?_,?_,?_,?_,?_,?_,?_,?_,?_,?_,?_,?_,trivial⟩
 ·refine ⟨⟨fun τ=>stableE_det _,leans_not⟩,?_⟩
  intro a w O hk
  have e20:a.eval (.tmp 20)=.pointer (some ⟨gp,0,none⟩):=(hk.init 20 (initialB_of_nw nw20)).trans hi20
  exact obE_run (wanted_none rfl) (by unfold execOp;simp only [];rw [e20];go_simp) rfl
 ·refine ⟨⟨fun τ=>stableE_det _,leans_not⟩,?_⟩
  intro a w O hk
  have e103:a.eval (.tmp 103)=.pointer (some ⟨gp,0,none⟩):=hk.fact 0 _ 103 rfl rfl rfl rfl
  have x20:=hk.world.still hx20 (fun ⟨_,h⟩=>h.elim And.right And.right)
  have x21:=hk.world.still hx21 (fun ⟨_,h⟩=>h.elim And.right And.right)
  have x22:=hk.world.still hx22 (fun ⟨_,h⟩=>h.elim And.right And.right)
  have x10:=hk.world.still hx10 (fun ⟨_,h⟩=>h.elim And.right And.right)
  have x11:=hk.world.still hx11 (fun ⟨_,h⟩=>h.elim And.right And.right)
  have x12:=hk.world.still hx12 (fun ⟨_,h⟩=>h.elim And.right And.right)
  have hfx:∀ k,k<B→w.heap[k]?=w0.heap[k]?:=fun k hk'=>hk.fix k ((fun k hk'=>est2_fix (Nat.lt_of_lt_of_le hk' hB) (fun e=>e.elim) (fun e=>e.elim)) k hk')
  have hsz:=hk.world.size
  have y20:=hin20.same (w':=w) (fun k hk' _=>hfx k hk')
  have y21:=hin21.same (w':=w) (fun k hk' _=>hfx k hk')
  have y22:=hin22.same (w':=w) (fun k hk' _=>hfx k hk')
  have y10:=hin10.same (w':=w) (fun k hk' _=>hfx k hk')
  have y11:=hin11.same (w':=w) (fun k hk' _=>hfx k hk')
  have y12:=hin12.same (w':=w) (fun k hk' _=>hfx k hk')
  have hcdp:∀ j,w.cell? ⟨dp,j,none⟩=w0.cell? ⟨dp,j,none⟩:=fun j=>cell_same (hfx _ hpd)
  have hcdm:∀ j,w.cell? ⟨dm,j,none⟩=w0.cell? ⟨dm,j,none⟩:=fun j=>cell_same (hfx _ hmd)
  have hcde:∀ j,w.cell? ⟨de,j,none⟩=w0.cell? ⟨de,j,none⟩:=fun j=>cell_same (hfx _ hed)
  obtain ⟨p0,p1,p2,p3,p4,p5,p6,p7⟩:=row8 x20
  rw [hpk] at p0
  exact obE_run (wanted_none rfl) (by unfold execOp;simp only [];rw [e103];go_simp) rfl
 ·refine ⟨⟨fun τ=>stableE_det _,leans_not⟩,?_⟩
  intro a w O hk
  have e104:a.eval (.tmp 104)=.int .i64 3:=hk.fact 1 _ 104 rfl rfl rfl rfl
  exact toE (ob_neqInt false rfl e104 rfl (by simp) (wanted_none rfl) rfl)
 ·refine ⟨⟨fun τ=>stableE_det _,leans_not⟩,?_⟩
  intro a w O hk
  have e105:a.eval (.tmp 105)=.bool false:=hk.fact 2 _ 105 rfl rfl rfl rfl
  exact toE (ob_move rfl e105 (wanted_none rfl) rfl)
 ·refine ⟨⟨fun τ=>stableE_det _,leans_not⟩,?_⟩
  intro a w O hk
  have e21:a.eval (.tmp 21)=.pointer (some ⟨gm,0,none⟩):=(hk.init 21 (initialB_of_nw nw21)).trans hi21
  have e106:a.eval (.tmp 106)=.bool false:=hk.fact 3 _ 106 rfl rfl rfl rfl
  exact obE_run (wanted_of rfl rfl rfl e106) (by unfold execOp;simp only [];rw [e21];go_simp) rfl
 ·refine ⟨⟨fun τ=>stableE_det _,leans_not⟩,?_⟩
  intro a w O hk
  have e107:a.eval (.tmp 107)=.pointer (some ⟨gm,0,none⟩):=hk.fact 4 _ 107 rfl rfl rfl rfl
  have e106:a.eval (.tmp 106)=.bool false:=hk.fact 3 _ 106 rfl rfl rfl rfl
  have x20:=hk.world.still hx20 (fun ⟨_,h⟩=>h.elim And.right And.right)
  have x21:=hk.world.still hx21 (fun ⟨_,h⟩=>h.elim And.right And.right)
  have x22:=hk.world.still hx22 (fun ⟨_,h⟩=>h.elim And.right And.right)
  have x10:=hk.world.still hx10 (fun ⟨_,h⟩=>h.elim And.right And.right)
  have x11:=hk.world.still hx11 (fun ⟨_,h⟩=>h.elim And.right And.right)
  have x12:=hk.world.still hx12 (fun ⟨_,h⟩=>h.elim And.right And.right)
  have hfx:∀ k,k<B→w.heap[k]?=w0.heap[k]?:=fun k hk'=>hk.fix k ((fun k hk'=>est2_fix (Nat.lt_of_lt_of_le hk' hB) (fun e=>e.elim) (fun e=>e.elim)) k hk')
  have hsz:=hk.world.size
  have y20:=hin20.same (w':=w) (fun k hk' _=>hfx k hk')
  have y21:=hin21.same (w':=w) (fun k hk' _=>hfx k hk')
  have y22:=hin22.same (w':=w) (fun k hk' _=>hfx k hk')
  have y10:=hin10.same (w':=w) (fun k hk' _=>hfx k hk')
  have y11:=hin11.same (w':=w) (fun k hk' _=>hfx k hk')
  have y12:=hin12.same (w':=w) (fun k hk' _=>hfx k hk')
  have hcdp:∀ j,w.cell? ⟨dp,j,none⟩=w0.cell? ⟨dp,j,none⟩:=fun j=>cell_same (hfx _ hpd)
  have hcdm:∀ j,w.cell? ⟨dm,j,none⟩=w0.cell? ⟨dm,j,none⟩:=fun j=>cell_same (hfx _ hmd)
  have hcde:∀ j,w.cell? ⟨de,j,none⟩=w0.cell? ⟨de,j,none⟩:=fun j=>cell_same (hfx _ hed)
  obtain ⟨p0,p1,p2,p3,p4,p5,p6,p7⟩:=row8 x21
  rw [hmk] at p0
  exact obE_run (wanted_of rfl rfl rfl e106) (by unfold execOp;simp only [];rw [e107];go_simp) rfl
 ·refine ⟨⟨fun τ=>stableE_det _,leans_not⟩,?_⟩
  intro a w O hk
  have e108:a.eval (.tmp 108)=.int .i64 4:=hk.fact 5 _ 108 rfl rfl rfl rfl
  have e106:a.eval (.tmp 106)=.bool false:=hk.fact 3 _ 106 rfl rfl rfl rfl
  exact toE (ob_neqInt false rfl e108 rfl (by simp) (wanted_of rfl rfl rfl e106) rfl)
 ·refine ⟨⟨fun τ=>stableE_det _,leans_not⟩,?_⟩
  intro a w O hk
  have e106:a.eval (.tmp 106)=.bool false:=hk.fact 3 _ 106 rfl rfl rfl rfl
  have e109:a.eval (.tmp 109)=.bool false:=hk.fact 6 _ 109 rfl rfl rfl rfl
  exact toE (ob_pick rfl e106 e109 (wanted_none rfl) rfl)
 ·refine ⟨⟨fun τ=>stableE_det _,leans_not⟩,?_⟩
  intro a w O hk
  have e110:a.eval (.tmp 110)=.bool false:=hk.fact 7 _ 110 rfl rfl rfl rfl
  exact toE (ob_move rfl e110 (wanted_none rfl) rfl)
 ·refine ⟨⟨fun τ=>stableE_det _,leans_not⟩,?_⟩
  intro a w O hk
  have e22:a.eval (.tmp 22)=.pointer (some ⟨ge,0,none⟩):=(hk.init 22 (initialB_of_nw nw22)).trans hi22
  have e111:a.eval (.tmp 111)=.bool false:=hk.fact 8 _ 111 rfl rfl rfl rfl
  exact obE_run (wanted_of rfl rfl rfl e111) (by unfold execOp;simp only [];rw [e22];go_simp) rfl
 ·refine ⟨⟨fun τ=>stableE_det _,leans_not⟩,?_⟩
  intro a w O hk
  have e112:a.eval (.tmp 112)=.pointer (some ⟨ge,0,none⟩):=hk.fact 9 _ 112 rfl rfl rfl rfl
  have e111:a.eval (.tmp 111)=.bool false:=hk.fact 8 _ 111 rfl rfl rfl rfl
  have x20:=hk.world.still hx20 (fun ⟨_,h⟩=>h.elim And.right And.right)
  have x21:=hk.world.still hx21 (fun ⟨_,h⟩=>h.elim And.right And.right)
  have x22:=hk.world.still hx22 (fun ⟨_,h⟩=>h.elim And.right And.right)
  have x10:=hk.world.still hx10 (fun ⟨_,h⟩=>h.elim And.right And.right)
  have x11:=hk.world.still hx11 (fun ⟨_,h⟩=>h.elim And.right And.right)
  have x12:=hk.world.still hx12 (fun ⟨_,h⟩=>h.elim And.right And.right)
  have hfx:∀ k,k<B→w.heap[k]?=w0.heap[k]?:=fun k hk'=>hk.fix k ((fun k hk'=>est2_fix (Nat.lt_of_lt_of_le hk' hB) (fun e=>e.elim) (fun e=>e.elim)) k hk')
  have hsz:=hk.world.size
  have y20:=hin20.same (w':=w) (fun k hk' _=>hfx k hk')
  have y21:=hin21.same (w':=w) (fun k hk' _=>hfx k hk')
  have y22:=hin22.same (w':=w) (fun k hk' _=>hfx k hk')
  have y10:=hin10.same (w':=w) (fun k hk' _=>hfx k hk')
  have y11:=hin11.same (w':=w) (fun k hk' _=>hfx k hk')
  have y12:=hin12.same (w':=w) (fun k hk' _=>hfx k hk')
  have hcdp:∀ j,w.cell? ⟨dp,j,none⟩=w0.cell? ⟨dp,j,none⟩:=fun j=>cell_same (hfx _ hpd)
  have hcdm:∀ j,w.cell? ⟨dm,j,none⟩=w0.cell? ⟨dm,j,none⟩:=fun j=>cell_same (hfx _ hmd)
  have hcde:∀ j,w.cell? ⟨de,j,none⟩=w0.cell? ⟨de,j,none⟩:=fun j=>cell_same (hfx _ hed)
  obtain ⟨p0,p1,p2,p3,p4,p5,p6,p7⟩:=row8 x22
  rw [hek] at p0
  exact obE_run (wanted_of rfl rfl rfl e111) (by unfold execOp;simp only [];rw [e112];go_simp) rfl
 ·refine ⟨⟨fun τ=>stableE_det _,leans_not⟩,?_⟩
  intro a w O hk
  have e113:a.eval (.tmp 113)=.int .i64 5:=hk.fact 10 _ 113 rfl rfl rfl rfl
  have e111:a.eval (.tmp 111)=.bool false:=hk.fact 8 _ 111 rfl rfl rfl rfl
  exact toE (ob_neqInt false rfl e113 rfl (by simp) (wanted_of rfl rfl rfl e111) rfl)
 ·refine ⟨⟨fun τ=>stableE_det _,leans_not⟩,?_⟩
  intro a w O hk
  have e111:a.eval (.tmp 111)=.bool false:=hk.fact 8 _ 111 rfl rfl rfl rfl
  have e114:a.eval (.tmp 114)=.bool false:=hk.fact 11 _ 114 rfl rfl rfl rfl
  exact toE (ob_pick rfl e111 e114 (wanted_none rfl) rfl)
 ·refine ⟨⟨fun τ=>stableE_det _,leans_not⟩,?_⟩
  intro a w O hk
  have e115:a.eval (.tmp 115)=.bool false:=hk.fact 12 _ 115 rfl rfl rfl rfl
  exact toE (ob_move rfl e115 (wanted_none rfl) rfl)
 ·refine ⟨⟨fun τ=>stableE_det _,leans_not⟩,?_⟩
  intro a w O hk
  have e20:a.eval (.tmp 20)=.pointer (some ⟨gp,0,none⟩):=(hk.init 20 (initialB_of_nw nw20)).trans hi20
  have e116:a.eval (.tmp 116)=.bool false:=hk.fact 13 _ 116 rfl rfl rfl rfl
  have x20:=hk.world.still hx20 (fun ⟨_,h⟩=>h.elim And.right And.right)
  have x21:=hk.world.still hx21 (fun ⟨_,h⟩=>h.elim And.right And.right)
  have x22:=hk.world.still hx22 (fun ⟨_,h⟩=>h.elim And.right And.right)
  have x10:=hk.world.still hx10 (fun ⟨_,h⟩=>h.elim And.right And.right)
  have x11:=hk.world.still hx11 (fun ⟨_,h⟩=>h.elim And.right And.right)
  have x12:=hk.world.still hx12 (fun ⟨_,h⟩=>h.elim And.right And.right)
  have hfx:∀ k,k<B→w.heap[k]?=w0.heap[k]?:=fun k hk'=>hk.fix k ((fun k hk'=>est2_fix (Nat.lt_of_lt_of_le hk' hB) (fun e=>e.elim) (fun e=>e.elim)) k hk')
  have hsz:=hk.world.size
  have y20:=hin20.same (w':=w) (fun k hk' _=>hfx k hk')
  have y21:=hin21.same (w':=w) (fun k hk' _=>hfx k hk')
  have y22:=hin22.same (w':=w) (fun k hk' _=>hfx k hk')
  have y10:=hin10.same (w':=w) (fun k hk' _=>hfx k hk')
  have y11:=hin11.same (w':=w) (fun k hk' _=>hfx k hk')
  have y12:=hin12.same (w':=w) (fun k hk' _=>hfx k hk')
  have hcdp:∀ j,w.cell? ⟨dp,j,none⟩=w0.cell? ⟨dp,j,none⟩:=fun j=>cell_same (hfx _ hpd)
  have hcdm:∀ j,w.cell? ⟨dm,j,none⟩=w0.cell? ⟨dm,j,none⟩:=fun j=>cell_same (hfx _ hmd)
  have hcde:∀ j,w.cell? ⟨de,j,none⟩=w0.cell? ⟨de,j,none⟩:=fun j=>cell_same (hfx _ hed)
  exact obE_run (wanted_of rfl rfl rfl e116) (by unfold execOp;simp only [];rw [e20];go_simp) rfl
 ·refine ⟨⟨fun τ=>stableE_det _,leans_not⟩,?_⟩
  intro a w O hk
  have e117:a.eval (.tmp 117)=.pointer (some ⟨gp,7,none⟩):=hk.fact 14 _ 117 rfl rfl rfl rfl
  have e116:a.eval (.tmp 116)=.bool false:=hk.fact 13 _ 116 rfl rfl rfl rfl
  have x20:=hk.world.still hx20 (fun ⟨_,h⟩=>h.elim And.right And.right)
  have x21:=hk.world.still hx21 (fun ⟨_,h⟩=>h.elim And.right And.right)
  have x22:=hk.world.still hx22 (fun ⟨_,h⟩=>h.elim And.right And.right)
  have x10:=hk.world.still hx10 (fun ⟨_,h⟩=>h.elim And.right And.right)
  have x11:=hk.world.still hx11 (fun ⟨_,h⟩=>h.elim And.right And.right)
  have x12:=hk.world.still hx12 (fun ⟨_,h⟩=>h.elim And.right And.right)
  have hfx:∀ k,k<B→w.heap[k]?=w0.heap[k]?:=fun k hk'=>hk.fix k ((fun k hk'=>est2_fix (Nat.lt_of_lt_of_le hk' hB) (fun e=>e.elim) (fun e=>e.elim)) k hk')
  have hsz:=hk.world.size
  have y20:=hin20.same (w':=w) (fun k hk' _=>hfx k hk')
  have y21:=hin21.same (w':=w) (fun k hk' _=>hfx k hk')
  have y22:=hin22.same (w':=w) (fun k hk' _=>hfx k hk')
  have y10:=hin10.same (w':=w) (fun k hk' _=>hfx k hk')
  have y11:=hin11.same (w':=w) (fun k hk' _=>hfx k hk')
  have y12:=hin12.same (w':=w) (fun k hk' _=>hfx k hk')
  have hcdp:∀ j,w.cell? ⟨dp,j,none⟩=w0.cell? ⟨dp,j,none⟩:=fun j=>cell_same (hfx _ hpd)
  have hcdm:∀ j,w.cell? ⟨dm,j,none⟩=w0.cell? ⟨dm,j,none⟩:=fun j=>cell_same (hfx _ hmd)
  have hcde:∀ j,w.cell? ⟨de,j,none⟩=w0.cell? ⟨de,j,none⟩:=fun j=>cell_same (hfx _ hed)
  obtain ⟨p0,p1,p2,p3,p4,p5,p6,p7⟩:=row8 x20
  rw [hpK,hpl] at p7
  exact obE_run (wanted_of rfl rfl rfl e116) (by unfold execOp;simp only [];rw [e117];go_simp) rfl
 ·refine ⟨⟨fun τ=>stableE_det _,leans_not⟩,?_⟩
  intro a w O hk
  have e118:a.eval (.tmp 118)=.slice (some ⟨dp,op,none⟩) 2 pp.e:=hk.fact 15 _ 118 rfl rfl rfl rfl
  have e116:a.eval (.tmp 116)=.bool false:=hk.fact 13 _ 116 rfl rfl rfl rfl
  exact toE (ob_len rfl e118 Try.underlying26 (wanted_of rfl rfl rfl e116) rfl)
 ·refine ⟨⟨fun τ=>stableE_det _,leans_not⟩,?_⟩
  intro a w O hk
  have e119:a.eval (.tmp 119)=.int .i64 2:=hk.fact 16 _ 119 rfl rfl rfl rfl
  have e116:a.eval (.tmp 116)=.bool false:=hk.fact 13 _ 116 rfl rfl rfl rfl
  exact toE (ob_neqInt false rfl e119 rfl (by simp) (wanted_of rfl rfl rfl e116) rfl)
 ·refine ⟨⟨fun τ=>stableE_det _,leans_not⟩,?_⟩
  intro a w O hk
  have e116:a.eval (.tmp 116)=.bool false:=hk.fact 13 _ 116 rfl rfl rfl rfl
  have e120:a.eval (.tmp 120)=.bool false:=hk.fact 17 _ 120 rfl rfl rfl rfl
  exact toE (ob_pick rfl e116 e120 (wanted_none rfl) rfl)
 ·refine ⟨⟨fun τ=>stableE_det _,leans_not⟩,?_⟩
  intro a w O hk
  have e121:a.eval (.tmp 121)=.bool false:=hk.fact 18 _ 121 rfl rfl rfl rfl
  exact toE (ob_move rfl e121 (wanted_none rfl) rfl)
 ·refine ⟨⟨fun τ=>stableE_det _,leans_not⟩,?_⟩
  intro a w O hk
  have e21:a.eval (.tmp 21)=.pointer (some ⟨gm,0,none⟩):=(hk.init 21 (initialB_of_nw nw21)).trans hi21
  have e122:a.eval (.tmp 122)=.bool false:=hk.fact 19 _ 122 rfl rfl rfl rfl
  have x20:=hk.world.still hx20 (fun ⟨_,h⟩=>h.elim And.right And.right)
  have x21:=hk.world.still hx21 (fun ⟨_,h⟩=>h.elim And.right And.right)
  have x22:=hk.world.still hx22 (fun ⟨_,h⟩=>h.elim And.right And.right)
  have x10:=hk.world.still hx10 (fun ⟨_,h⟩=>h.elim And.right And.right)
  have x11:=hk.world.still hx11 (fun ⟨_,h⟩=>h.elim And.right And.right)
  have x12:=hk.world.still hx12 (fun ⟨_,h⟩=>h.elim And.right And.right)
  have hfx:∀ k,k<B→w.heap[k]?=w0.heap[k]?:=fun k hk'=>hk.fix k ((fun k hk'=>est2_fix (Nat.lt_of_lt_of_le hk' hB) (fun e=>e.elim) (fun e=>e.elim)) k hk')
  have hsz:=hk.world.size
  have y20:=hin20.same (w':=w) (fun k hk' _=>hfx k hk')
  have y21:=hin21.same (w':=w) (fun k hk' _=>hfx k hk')
  have y22:=hin22.same (w':=w) (fun k hk' _=>hfx k hk')
  have y10:=hin10.same (w':=w) (fun k hk' _=>hfx k hk')
  have y11:=hin11.same (w':=w) (fun k hk' _=>hfx k hk')
  have y12:=hin12.same (w':=w) (fun k hk' _=>hfx k hk')
  have hcdp:∀ j,w.cell? ⟨dp,j,none⟩=w0.cell? ⟨dp,j,none⟩:=fun j=>cell_same (hfx _ hpd)
  have hcdm:∀ j,w.cell? ⟨dm,j,none⟩=w0.cell? ⟨dm,j,none⟩:=fun j=>cell_same (hfx _ hmd)
  have hcde:∀ j,w.cell? ⟨de,j,none⟩=w0.cell? ⟨de,j,none⟩:=fun j=>cell_same (hfx _ hed)
  exact obE_run (wanted_of rfl rfl rfl e122) (by unfold execOp;simp only [];rw [e21];go_simp) rfl
 ·refine ⟨⟨fun τ=>stableE_det _,leans_not⟩,?_⟩
  intro a w O hk
  have e123:a.eval (.tmp 123)=.pointer (some ⟨gm,7,none⟩):=hk.fact 20 _ 123 rfl rfl rfl rfl
  have e122:a.eval (.tmp 122)=.bool false:=hk.fact 19 _ 122 rfl rfl rfl rfl
  have x20:=hk.world.still hx20 (fun ⟨_,h⟩=>h.elim And.right And.right)
  have x21:=hk.world.still hx21 (fun ⟨_,h⟩=>h.elim And.right And.right)
  have x22:=hk.world.still hx22 (fun ⟨_,h⟩=>h.elim And.right And.right)
  have x10:=hk.world.still hx10 (fun ⟨_,h⟩=>h.elim And.right And.right)
  have x11:=hk.world.still hx11 (fun ⟨_,h⟩=>h.elim And.right And.right)
  have x12:=hk.world.still hx12 (fun ⟨_,h⟩=>h.elim And.right And.right)
  have hfx:∀ k,k<B→w.heap[k]?=w0.heap[k]?:=fun k hk'=>hk.fix k ((fun k hk'=>est2_fix (Nat.lt_of_lt_of_le hk' hB) (fun e=>e.elim) (fun e=>e.elim)) k hk')
  have hsz:=hk.world.size
  have y20:=hin20.same (w':=w) (fun k hk' _=>hfx k hk')
  have y21:=hin21.same (w':=w) (fun k hk' _=>hfx k hk')
  have y22:=hin22.same (w':=w) (fun k hk' _=>hfx k hk')
  have y10:=hin10.same (w':=w) (fun k hk' _=>hfx k hk')
  have y11:=hin11.same (w':=w) (fun k hk' _=>hfx k hk')
  have y12:=hin12.same (w':=w) (fun k hk' _=>hfx k hk')
  have hcdp:∀ j,w.cell? ⟨dp,j,none⟩=w0.cell? ⟨dp,j,none⟩:=fun j=>cell_same (hfx _ hpd)
  have hcdm:∀ j,w.cell? ⟨dm,j,none⟩=w0.cell? ⟨dm,j,none⟩:=fun j=>cell_same (hfx _ hmd)
  have hcde:∀ j,w.cell? ⟨de,j,none⟩=w0.cell? ⟨de,j,none⟩:=fun j=>cell_same (hfx _ hed)
  obtain ⟨p0,p1,p2,p3,p4,p5,p6,p7⟩:=row8 x21
  rw [hmK,hml] at p7
  exact obE_run (wanted_of rfl rfl rfl e122) (by unfold execOp;simp only [];rw [e123];go_simp) rfl
 ·refine ⟨⟨fun τ=>stableE_det _,leans_not⟩,?_⟩
  intro a w O hk
  have e124:a.eval (.tmp 124)=.slice (some ⟨dm,om,none⟩) 2 pm.e:=hk.fact 21 _ 124 rfl rfl rfl rfl
  have e122:a.eval (.tmp 122)=.bool false:=hk.fact 19 _ 122 rfl rfl rfl rfl
  exact toE (ob_len rfl e124 Try.underlying26 (wanted_of rfl rfl rfl e122) rfl)
 ·refine ⟨⟨fun τ=>stableE_det _,leans_not⟩,?_⟩
  intro a w O hk
  have e125:a.eval (.tmp 125)=.int .i64 2:=hk.fact 22 _ 125 rfl rfl rfl rfl
  have e122:a.eval (.tmp 122)=.bool false:=hk.fact 19 _ 122 rfl rfl rfl rfl
  exact toE (ob_neqInt false rfl e125 rfl (by simp) (wanted_of rfl rfl rfl e122) rfl)
 ·refine ⟨⟨fun τ=>stableE_det _,leans_not⟩,?_⟩
  intro a w O hk
  have e122:a.eval (.tmp 122)=.bool false:=hk.fact 19 _ 122 rfl rfl rfl rfl
  have e126:a.eval (.tmp 126)=.bool false:=hk.fact 23 _ 126 rfl rfl rfl rfl
  exact toE (ob_pick rfl e122 e126 (wanted_none rfl) rfl)
 ·refine ⟨⟨fun τ=>stableE_det _,leans_not⟩,?_⟩
  intro a w O hk
  have e127:a.eval (.tmp 127)=.bool false:=hk.fact 24 _ 127 rfl rfl rfl rfl
  exact toE (ob_move rfl e127 (wanted_none rfl) rfl)
 ·refine ⟨⟨fun τ=>stableE_det _,leans_not⟩,?_⟩
  intro a w O hk
  have e22:a.eval (.tmp 22)=.pointer (some ⟨ge,0,none⟩):=(hk.init 22 (initialB_of_nw nw22)).trans hi22
  have e128:a.eval (.tmp 128)=.bool false:=hk.fact 25 _ 128 rfl rfl rfl rfl
  have x20:=hk.world.still hx20 (fun ⟨_,h⟩=>h.elim And.right And.right)
  have x21:=hk.world.still hx21 (fun ⟨_,h⟩=>h.elim And.right And.right)
  have x22:=hk.world.still hx22 (fun ⟨_,h⟩=>h.elim And.right And.right)
  have x10:=hk.world.still hx10 (fun ⟨_,h⟩=>h.elim And.right And.right)
  have x11:=hk.world.still hx11 (fun ⟨_,h⟩=>h.elim And.right And.right)
  have x12:=hk.world.still hx12 (fun ⟨_,h⟩=>h.elim And.right And.right)
  have hfx:∀ k,k<B→w.heap[k]?=w0.heap[k]?:=fun k hk'=>hk.fix k ((fun k hk'=>est2_fix (Nat.lt_of_lt_of_le hk' hB) (fun e=>e.elim) (fun e=>e.elim)) k hk')
  have hsz:=hk.world.size
  have y20:=hin20.same (w':=w) (fun k hk' _=>hfx k hk')
  have y21:=hin21.same (w':=w) (fun k hk' _=>hfx k hk')
  have y22:=hin22.same (w':=w) (fun k hk' _=>hfx k hk')
  have y10:=hin10.same (w':=w) (fun k hk' _=>hfx k hk')
  have y11:=hin11.same (w':=w) (fun k hk' _=>hfx k hk')
  have y12:=hin12.same (w':=w) (fun k hk' _=>hfx k hk')
  have hcdp:∀ j,w.cell? ⟨dp,j,none⟩=w0.cell? ⟨dp,j,none⟩:=fun j=>cell_same (hfx _ hpd)
  have hcdm:∀ j,w.cell? ⟨dm,j,none⟩=w0.cell? ⟨dm,j,none⟩:=fun j=>cell_same (hfx _ hmd)
  have hcde:∀ j,w.cell? ⟨de,j,none⟩=w0.cell? ⟨de,j,none⟩:=fun j=>cell_same (hfx _ hed)
  exact obE_run (wanted_of rfl rfl rfl e128) (by unfold execOp;simp only [];rw [e22];go_simp) rfl
 ·refine ⟨⟨fun τ=>stableE_det _,leans_not⟩,?_⟩
  intro a w O hk
  have e129:a.eval (.tmp 129)=.pointer (some ⟨ge,7,none⟩):=hk.fact 26 _ 129 rfl rfl rfl rfl
  have e128:a.eval (.tmp 128)=.bool false:=hk.fact 25 _ 128 rfl rfl rfl rfl
  have x20:=hk.world.still hx20 (fun ⟨_,h⟩=>h.elim And.right And.right)
  have x21:=hk.world.still hx21 (fun ⟨_,h⟩=>h.elim And.right And.right)
  have x22:=hk.world.still hx22 (fun ⟨_,h⟩=>h.elim And.right And.right)
  have x10:=hk.world.still hx10 (fun ⟨_,h⟩=>h.elim And.right And.right)
  have x11:=hk.world.still hx11 (fun ⟨_,h⟩=>h.elim And.right And.right)
  have x12:=hk.world.still hx12 (fun ⟨_,h⟩=>h.elim And.right And.right)
  have hfx:∀ k,k<B→w.heap[k]?=w0.heap[k]?:=fun k hk'=>hk.fix k ((fun k hk'=>est2_fix (Nat.lt_of_lt_of_le hk' hB) (fun e=>e.elim) (fun e=>e.elim)) k hk')
  have hsz:=hk.world.size
  have y20:=hin20.same (w':=w) (fun k hk' _=>hfx k hk')
  have y21:=hin21.same (w':=w) (fun k hk' _=>hfx k hk')
  have y22:=hin22.same (w':=w) (fun k hk' _=>hfx k hk')
  have y10:=hin10.same (w':=w) (fun k hk' _=>hfx k hk')
  have y11:=hin11.same (w':=w) (fun k hk' _=>hfx k hk')
  have y12:=hin12.same (w':=w) (fun k hk' _=>hfx k hk')
  have hcdp:∀ j,w.cell? ⟨dp,j,none⟩=w0.cell? ⟨dp,j,none⟩:=fun j=>cell_same (hfx _ hpd)
  have hcdm:∀ j,w.cell? ⟨dm,j,none⟩=w0.cell? ⟨dm,j,none⟩:=fun j=>cell_same (hfx _ hmd)
  have hcde:∀ j,w.cell? ⟨de,j,none⟩=w0.cell? ⟨de,j,none⟩:=fun j=>cell_same (hfx _ hed)
  obtain ⟨p0,p1,p2,p3,p4,p5,p6,p7⟩:=row8 x22
  rw [heK,hel] at p7
  exact obE_run (wanted_of rfl rfl rfl e128) (by unfold execOp;simp only [];rw [e129];go_simp) rfl
 ·refine ⟨⟨fun τ=>stableE_det _,leans_not⟩,?_⟩
  intro a w O hk
  have e130:a.eval (.tmp 130)=.slice (some ⟨de,oe,none⟩) 3 pe.e:=hk.fact 27 _ 130 rfl rfl rfl rfl
  have e128:a.eval (.tmp 128)=.bool false:=hk.fact 25 _ 128 rfl rfl rfl rfl
  exact toE (ob_len rfl e130 Try.underlying26 (wanted_of rfl rfl rfl e128) rfl)
 ·refine ⟨⟨fun τ=>stableE_det _,leans_not⟩,?_⟩
  intro a w O hk
  have e131:a.eval (.tmp 131)=.int .i64 3:=hk.fact 28 _ 131 rfl rfl rfl rfl
  have e128:a.eval (.tmp 128)=.bool false:=hk.fact 25 _ 128 rfl rfl rfl rfl
  exact toE (ob_neqInt false rfl e131 rfl (by simp) (wanted_of rfl rfl rfl e128) rfl)
 ·refine ⟨⟨fun τ=>stableE_det _,leans_not⟩,?_⟩
  intro a w O hk
  have e128:a.eval (.tmp 128)=.bool false:=hk.fact 25 _ 128 rfl rfl rfl rfl
  have e132:a.eval (.tmp 132)=.bool false:=hk.fact 29 _ 132 rfl rfl rfl rfl
  exact toE (ob_pick rfl e128 e132 (wanted_none rfl) rfl)
 ·refine ⟨⟨fun τ=>stableE_det _,leans_not⟩,?_⟩
  intro a w O hk
  have e133:a.eval (.tmp 133)=.bool false:=hk.fact 30 _ 133 rfl rfl rfl rfl
  exact toE (ob_move rfl e133 (wanted_none rfl) rfl)
 ·refine ⟨⟨fun τ=>stableE_det _,leans_not⟩,?_⟩
  intro a w O hk
  have e20:a.eval (.tmp 20)=.pointer (some ⟨gp,0,none⟩):=(hk.init 20 (initialB_of_nw nw20)).trans hi20
  have e134:a.eval (.tmp 134)=.bool false:=hk.fact 31 _ 134 rfl rfl rfl rfl
  have x20:=hk.world.still hx20 (fun ⟨_,h⟩=>h.elim And.right And.right)
  have x21:=hk.world.still hx21 (fun ⟨_,h⟩=>h.elim And.right And.right)
  have x22:=hk.world.still hx22 (fun ⟨_,h⟩=>h.elim And.right And.right)
  have x10:=hk.world.still hx10 (fun ⟨_,h⟩=>h.elim And.right And.right)
  have x11:=hk.world.still hx11 (fun ⟨_,h⟩=>h.elim And.right And.right)
  have x12:=hk.world.still hx12 (fun ⟨_,h⟩=>h.elim And.right And.right)
  have hfx:∀ k,k<B→w.heap[k]?=w0.heap[k]?:=fun k hk'=>hk.fix k ((fun k hk'=>est2_fix (Nat.lt_of_lt_of_le hk' hB) (fun e=>e.elim) (fun e=>e.elim)) k hk')
  have hsz:=hk.world.size
  have y20:=hin20.same (w':=w) (fun k hk' _=>hfx k hk')
  have y21:=hin21.same (w':=w) (fun k hk' _=>hfx k hk')
  have y22:=hin22.same (w':=w) (fun k hk' _=>hfx k hk')
  have y10:=hin10.same (w':=w) (fun k hk' _=>hfx k hk')
  have y11:=hin11.same (w':=w) (fun k hk' _=>hfx k hk')
  have y12:=hin12.same (w':=w) (fun k hk' _=>hfx k hk')
  have hcdp:∀ j,w.cell? ⟨dp,j,none⟩=w0.cell? ⟨dp,j,none⟩:=fun j=>cell_same (hfx _ hpd)
  have hcdm:∀ j,w.cell? ⟨dm,j,none⟩=w0.cell? ⟨dm,j,none⟩:=fun j=>cell_same (hfx _ hmd)
  have hcde:∀ j,w.cell? ⟨de,j,none⟩=w0.cell? ⟨de,j,none⟩:=fun j=>cell_same (hfx _ hed)
  exact obE_run (wanted_of rfl rfl rfl e134) (by unfold execOp;simp only [];rw [e20];go_simp) rfl
 ·refine ⟨⟨fun τ=>stableE_det _,leans_not⟩,?_⟩
  intro a w O hk
  have e135:a.eval (.tmp 135)=.pointer (some ⟨gp,7,none⟩):=hk.fact 32 _ 135 rfl rfl rfl rfl
  have e134:a.eval (.tmp 134)=.bool false:=hk.fact 31 _ 134 rfl rfl rfl rfl
  have x20:=hk.world.still hx20 (fun ⟨_,h⟩=>h.elim And.right And.right)
  have x21:=hk.world.still hx21 (fun ⟨_,h⟩=>h.elim And.right And.right)
  have x22:=hk.world.still hx22 (fun ⟨_,h⟩=>h.elim And.right And.right)
  have x10:=hk.world.still hx10 (fun ⟨_,h⟩=>h.elim And.right And.right)
  have x11:=hk.world.still hx11 (fun ⟨_,h⟩=>h.elim And.right And.right)
  have x12:=hk.world.still hx12 (fun ⟨_,h⟩=>h.elim And.right And.right)
  have hfx:∀ k,k<B→w.heap[k]?=w0.heap[k]?:=fun k hk'=>hk.fix k ((fun k hk'=>est2_fix (Nat.lt_of_lt_of_le hk' hB) (fun e=>e.elim) (fun e=>e.elim)) k hk')
  have hsz:=hk.world.size
  have y20:=hin20.same (w':=w) (fun k hk' _=>hfx k hk')
  have y21:=hin21.same (w':=w) (fun k hk' _=>hfx k hk')
  have y22:=hin22.same (w':=w) (fun k hk' _=>hfx k hk')
  have y10:=hin10.same (w':=w) (fun k hk' _=>hfx k hk')
  have y11:=hin11.same (w':=w) (fun k hk' _=>hfx k hk')
  have y12:=hin12.same (w':=w) (fun k hk' _=>hfx k hk')
  have hcdp:∀ j,w.cell? ⟨dp,j,none⟩=w0.cell? ⟨dp,j,none⟩:=fun j=>cell_same (hfx _ hpd)
  have hcdm:∀ j,w.cell? ⟨dm,j,none⟩=w0.cell? ⟨dm,j,none⟩:=fun j=>cell_same (hfx _ hmd)
  have hcde:∀ j,w.cell? ⟨de,j,none⟩=w0.cell? ⟨de,j,none⟩:=fun j=>cell_same (hfx _ hed)
  obtain ⟨p0,p1,p2,p3,p4,p5,p6,p7⟩:=row8 x20
  rw [hpK,hpl] at p7
  exact obE_run (wanted_of rfl rfl rfl e134) (by unfold execOp;simp only [];rw [e135];go_simp) rfl
 ·refine ⟨⟨fun τ=>stableE_det _,leans_not⟩,?_⟩
  intro a w O hk
  have e136:a.eval (.tmp 136)=.slice (some ⟨dp,op,none⟩) 2 pp.e:=hk.fact 33 _ 136 rfl rfl rfl rfl
  have e134:a.eval (.tmp 134)=.bool false:=hk.fact 31 _ 134 rfl rfl rfl rfl
  have x20:=hk.world.still hx20 (fun ⟨_,h⟩=>h.elim And.right And.right)
  have x21:=hk.world.still hx21 (fun ⟨_,h⟩=>h.elim And.right And.right)
  have x22:=hk.world.still hx22 (fun ⟨_,h⟩=>h.elim And.right And.right)
  have x10:=hk.world.still hx10 (fun ⟨_,h⟩=>h.elim And.right And.right)
  have x11:=hk.world.still hx11 (fun ⟨_,h⟩=>h.elim And.right And.right)
  have x12:=hk.world.still hx12 (fun ⟨_,h⟩=>h.elim And.right And.right)
  have hfx:∀ k,k<B→w.heap[k]?=w0.heap[k]?:=fun k hk'=>hk.fix k ((fun k hk'=>est2_fix (Nat.lt_of_lt_of_le hk' hB) (fun e=>e.elim) (fun e=>e.elim)) k hk')
  have hsz:=hk.world.size
  have y20:=hin20.same (w':=w) (fun k hk' _=>hfx k hk')
  have y21:=hin21.same (w':=w) (fun k hk' _=>hfx k hk')
  have y22:=hin22.same (w':=w) (fun k hk' _=>hfx k hk')
  have y10:=hin10.same (w':=w) (fun k hk' _=>hfx k hk')
  have y11:=hin11.same (w':=w) (fun k hk' _=>hfx k hk')
  have y12:=hin12.same (w':=w) (fun k hk' _=>hfx k hk')
  have hcdp:∀ j,w.cell? ⟨dp,j,none⟩=w0.cell? ⟨dp,j,none⟩:=fun j=>cell_same (hfx _ hpd)
  have hcdm:∀ j,w.cell? ⟨dm,j,none⟩=w0.cell? ⟨dm,j,none⟩:=fun j=>cell_same (hfx _ hmd)
  have hcde:∀ j,w.cell? ⟨de,j,none⟩=w0.cell? ⟨de,j,none⟩:=fun j=>cell_same (hfx _ hed)
  exact obE_run (wanted_of rfl rfl rfl e134) (by unfold execOp;simp only [];rw [e136];go_simp) rfl
 ·refine ⟨⟨fun τ=>stableE_det _,leans_not⟩,?_⟩
  intro a w O hk
  have e137:a.eval (.tmp 137)=.pointer (some ⟨dp,op+1 * 8,none⟩):=hk.fact 34 _ 137 rfl rfl rfl rfl
  have e134:a.eval (.tmp 134)=.bool false:=hk.fact 31 _ 134 rfl rfl rfl rfl
  have x20:=hk.world.still hx20 (fun ⟨_,h⟩=>h.elim And.right And.right)
  have x21:=hk.world.still hx21 (fun ⟨_,h⟩=>h.elim And.right And.right)
  have x22:=hk.world.still hx22 (fun ⟨_,h⟩=>h.elim And.right And.right)
  have x10:=hk.world.still hx10 (fun ⟨_,h⟩=>h.elim And.right And.right)
  have x11:=hk.world.still hx11 (fun ⟨_,h⟩=>h.elim And.right And.right)
  have x12:=hk.world.still hx12 (fun ⟨_,h⟩=>h.elim And.right And.right)
  have hfx:∀ k,k<B→w.heap[k]?=w0.heap[k]?:=fun k hk'=>hk.fix k ((fun k hk'=>est2_fix (Nat.lt_of_lt_of_le hk' hB) (fun e=>e.elim) (fun e=>e.elim)) k hk')
  have hsz:=hk.world.size
  have y20:=hin20.same (w':=w) (fun k hk' _=>hfx k hk')
  have y21:=hin21.same (w':=w) (fun k hk' _=>hfx k hk')
  have y22:=hin22.same (w':=w) (fun k hk' _=>hfx k hk')
  have y10:=hin10.same (w':=w) (fun k hk' _=>hfx k hk')
  have y11:=hin11.same (w':=w) (fun k hk' _=>hfx k hk')
  have y12:=hin12.same (w':=w) (fun k hk' _=>hfx k hk')
  have hcdp:∀ j,w.cell? ⟨dp,j,none⟩=w0.cell? ⟨dp,j,none⟩:=fun j=>cell_same (hfx _ hpd)
  have hcdm:∀ j,w.cell? ⟨dm,j,none⟩=w0.cell? ⟨dm,j,none⟩:=fun j=>cell_same (hfx _ hmd)
  have hcde:∀ j,w.cell? ⟨de,j,none⟩=w0.cell? ⟨de,j,none⟩:=fun j=>cell_same (hfx _ hed)
  have r0:=(hcdp _).trans c10
  have r1:=(hcdp _).trans c11
  have r2:=(hcdp _).trans c12
  have r3:=(hcdp _).trans c13
  have r4:=(hcdp _).trans c14
  have r5:=(hcdp _).trans c15
  have r6:=(hcdp _).trans c16
  have r7:=(hcdp _).trans c17
  exact obE_run (wanted_of rfl rfl rfl e134) (by unfold execOp;simp only [];rw [e137];go_simp;rfl) rfl
 ·refine ⟨⟨fun τ=>stableE_det _,leans_not⟩,?_⟩
  intro a w O hk
  have e11:a.eval (.tmp 11)=.pointer (some ⟨gb,0,none⟩):=(hk.init 11 (initialB_of_nw nw11)).trans hi11
  have e134:a.eval (.tmp 134)=.bool false:=hk.fact 31 _ 134 rfl rfl rfl rfl
  have x20:=hk.world.still hx20 (fun ⟨_,h⟩=>h.elim And.right And.right)
  have x21:=hk.world.still hx21 (fun ⟨_,h⟩=>h.elim And.right And.right)
  have x22:=hk.world.still hx22 (fun ⟨_,h⟩=>h.elim And.right And.right)
  have x10:=hk.world.still hx10 (fun ⟨_,h⟩=>h.elim And.right And.right)
  have x11:=hk.world.still hx11 (fun ⟨_,h⟩=>h.elim And.right And.right)
  have x12:=hk.world.still hx12 (fun ⟨_,h⟩=>h.elim And.right And.right)
  have hfx:∀ k,k<B→w.heap[k]?=w0.heap[k]?:=fun k hk'=>hk.fix k ((fun k hk'=>est2_fix (Nat.lt_of_lt_of_le hk' hB) (fun e=>e.elim) (fun e=>e.elim)) k hk')
  have hsz:=hk.world.size
  have y20:=hin20.same (w':=w) (fun k hk' _=>hfx k hk')
  have y21:=hin21.same (w':=w) (fun k hk' _=>hfx k hk')
  have y22:=hin22.same (w':=w) (fun k hk' _=>hfx k hk')
  have y10:=hin10.same (w':=w) (fun k hk' _=>hfx k hk')
  have y11:=hin11.same (w':=w) (fun k hk' _=>hfx k hk')
  have y12:=hin12.same (w':=w) (fun k hk' _=>hfx k hk')
  have hcdp:∀ j,w.cell? ⟨dp,j,none⟩=w0.cell? ⟨dp,j,none⟩:=fun j=>cell_same (hfx _ hpd)
  have hcdm:∀ j,w.cell? ⟨dm,j,none⟩=w0.cell? ⟨dm,j,none⟩:=fun j=>cell_same (hfx _ hmd)
  have hcde:∀ j,w.cell? ⟨de,j,none⟩=w0.cell? ⟨de,j,none⟩:=fun j=>cell_same (hfx _ hed)
  exact obE_loadRow rfl e11 x11 Try.underlying28 rfl (by kernel_rfl) (wanted_of rfl rfl rfl e134) rfl
 ·refine ⟨⟨fun τ=>stableE_det _,leans_not⟩,?_⟩
  intro a w O hk
  have e138:a.eval (.tmp 138)=tmV q1 k1:=hk.fact 35 _ 138 rfl rfl rfl rfl
  have e139:a.eval (.tmp 139)=tmV pb tb:=hk.fact 36 _ 139 rfl rfl rfl rfl
  have e134:a.eval (.tmp 134)=.bool false:=hk.fact 31 _ 134 rfl rfl rfl rfl
  have x20:=hk.world.still hx20 (fun ⟨_,h⟩=>h.elim And.right And.right)
  have x21:=hk.world.still hx21 (fun ⟨_,h⟩=>h.elim And.right And.right)
  have x22:=hk.world.still hx22 (fun ⟨_,h⟩=>h.elim And.right And.right)
  have x10:=hk.world.still hx10 (fun ⟨_,h⟩=>h.elim And.right And.right)
  have x11:=hk.world.still hx11 (fun ⟨_,h⟩=>h.elim And.right And.right)
  have x12:=hk.world.still hx12 (fun ⟨_,h⟩=>h.elim And.right And.right)
  have hfx:∀ k,k<B→w.heap[k]?=w0.heap[k]?:=fun k hk'=>hk.fix k ((fun k hk'=>est2_fix (Nat.lt_of_lt_of_le hk' hB) (fun e=>e.elim) (fun e=>e.elim)) k hk')
  have hsz:=hk.world.size
  have y20:=hin20.same (w':=w) (fun k hk' _=>hfx k hk')
  have y21:=hin21.same (w':=w) (fun k hk' _=>hfx k hk')
  have y22:=hin22.same (w':=w) (fun k hk' _=>hfx k hk')
  have y10:=hin10.same (w':=w) (fun k hk' _=>hfx k hk')
  have y11:=hin11.same (w':=w) (fun k hk' _=>hfx k hk')
  have y12:=hin12.same (w':=w) (fun k hk' _=>hfx k hk')
  have hcdp:∀ j,w.cell? ⟨dp,j,none⟩=w0.cell? ⟨dp,j,none⟩:=fun j=>cell_same (hfx _ hpd)
  have hcdm:∀ j,w.cell? ⟨dm,j,none⟩=w0.cell? ⟨dm,j,none⟩:=fun j=>cell_same (hfx _ hmd)
  have hcde:∀ j,w.cell? ⟨de,j,none⟩=w0.cell? ⟨de,j,none⟩:=fun j=>cell_same (hfx _ hed)
  exact obE_callV #[tmV q1 k1,tmV pb tb] rfl rfl rfl rfl (by simp only [List.map_cons,List.map_nil];rw [e138,e139];try rfl) (wanted_of rfl rfl rfl e134) ((alike_calls k1 tb q1 pb w co1 (TmIn.mono (hk1.same (w':=w) (fun k hk' _=>hfx k hk')) (Nat.le_trans hB hsz)) (TmIn.mono y11 (Nat.le_trans hB hsz))).mono fun e w' h=>⟨by rw [h.1,al1],h.2⟩)
 ·refine ⟨⟨fun τ=>stableE_det _,leans_not⟩,?_⟩
  intro a w O hk
  have e140:a.eval (.tmp 140)=.bool true:=hk.fact 37 _ 140 rfl rfl rfl rfl
  have e134:a.eval (.tmp 134)=.bool false:=hk.fact 31 _ 134 rfl rfl rfl rfl
  have x20:=hk.world.still hx20 (fun ⟨_,h⟩=>h.elim And.right And.right)
  have x21:=hk.world.still hx21 (fun ⟨_,h⟩=>h.elim And.right And.right)
  have x22:=hk.world.still hx22 (fun ⟨_,h⟩=>h.elim And.right And.right)
  have x10:=hk.world.still hx10 (fun ⟨_,h⟩=>h.elim And.right And.right)
  have x11:=hk.world.still hx11 (fun ⟨_,h⟩=>h.elim And.right And.right)
  have x12:=hk.world.still hx12 (fun ⟨_,h⟩=>h.elim And.right And.right)
  have hfx:∀ k,k<B→w.heap[k]?=w0.heap[k]?:=fun k hk'=>hk.fix k ((fun k hk'=>est2_fix (Nat.lt_of_lt_of_le hk' hB) (fun e=>e.elim) (fun e=>e.elim)) k hk')
  have hsz:=hk.world.size
  have y20:=hin20.same (w':=w) (fun k hk' _=>hfx k hk')
  have y21:=hin21.same (w':=w) (fun k hk' _=>hfx k hk')
  have y22:=hin22.same (w':=w) (fun k hk' _=>hfx k hk')
  have y10:=hin10.same (w':=w) (fun k hk' _=>hfx k hk')
  have y11:=hin11.same (w':=w) (fun k hk' _=>hfx k hk')
  have y12:=hin12.same (w':=w) (fun k hk' _=>hfx k hk')
  have hcdp:∀ j,w.cell? ⟨dp,j,none⟩=w0.cell? ⟨dp,j,none⟩:=fun j=>cell_same (hfx _ hpd)
  have hcdm:∀ j,w.cell? ⟨dm,j,none⟩=w0.cell? ⟨dm,j,none⟩:=fun j=>cell_same (hfx _ hmd)
  have hcde:∀ j,w.cell? ⟨de,j,none⟩=w0.cell? ⟨de,j,none⟩:=fun j=>cell_same (hfx _ hed)
  exact obE_run (wanted_of rfl rfl rfl e134) (by unfold execOp;simp only [];rw [e140];go_simp) rfl
 ·refine ⟨⟨fun τ=>stableE_det _,leans_not⟩,?_⟩
  intro a w O hk
  have e134:a.eval (.tmp 134)=.bool false:=hk.fact 31 _ 134 rfl rfl rfl rfl
  have e141:a.eval (.tmp 141)=.bool false:=hk.fact 38 _ 141 rfl rfl rfl rfl
  exact toE (ob_pick rfl e134 e141 (wanted_none rfl) rfl)
 ·refine ⟨⟨fun τ=>stableE_det _,leans_not⟩,?_⟩
  intro a w O hk
  have e142:a.eval (.tmp 142)=.bool false:=hk.fact 39 _ 142 rfl rfl rfl rfl
  exact toE (ob_move rfl e142 (wanted_none rfl) rfl)
 ·refine ⟨⟨fun τ=>stableE_det _,leans_not⟩,?_⟩
  intro a w O hk
  have e21:a.eval (.tmp 21)=.pointer (some ⟨gm,0,none⟩):=(hk.init 21 (initialB_of_nw nw21)).trans hi21
  have e143:a.eval (.tmp 143)=.bool false:=hk.fact 40 _ 143 rfl rfl rfl rfl
  have x20:=hk.world.still hx20 (fun ⟨_,h⟩=>h.elim And.right And.right)
  have x21:=hk.world.still hx21 (fun ⟨_,h⟩=>h.elim And.right And.right)
  have x22:=hk.world.still hx22 (fun ⟨_,h⟩=>h.elim And.right And.right)
  have x10:=hk.world.still hx10 (fun ⟨_,h⟩=>h.elim And.right And.right)
  have x11:=hk.world.still hx11 (fun ⟨_,h⟩=>h.elim And.right And.right)
  have x12:=hk.world.still hx12 (fun ⟨_,h⟩=>h.elim And.right And.right)
  have hfx:∀ k,k<B→w.heap[k]?=w0.heap[k]?:=fun k hk'=>hk.fix k ((fun k hk'=>est2_fix (Nat.lt_of_lt_of_le hk' hB) (fun e=>e.elim) (fun e=>e.elim)) k hk')
  have hsz:=hk.world.size
  have y20:=hin20.same (w':=w) (fun k hk' _=>hfx k hk')
  have y21:=hin21.same (w':=w) (fun k hk' _=>hfx k hk')
  have y22:=hin22.same (w':=w) (fun k hk' _=>hfx k hk')
  have y10:=hin10.same (w':=w) (fun k hk' _=>hfx k hk')
  have y11:=hin11.same (w':=w) (fun k hk' _=>hfx k hk')
  have y12:=hin12.same (w':=w) (fun k hk' _=>hfx k hk')
  have hcdp:∀ j,w.cell? ⟨dp,j,none⟩=w0.cell? ⟨dp,j,none⟩:=fun j=>cell_same (hfx _ hpd)
  have hcdm:∀ j,w.cell? ⟨dm,j,none⟩=w0.cell? ⟨dm,j,none⟩:=fun j=>cell_same (hfx _ hmd)
  have hcde:∀ j,w.cell? ⟨de,j,none⟩=w0.cell? ⟨de,j,none⟩:=fun j=>cell_same (hfx _ hed)
  exact obE_run (wanted_of rfl rfl rfl e143) (by unfold execOp;simp only [];rw [e21];go_simp) rfl
 ·refine ⟨⟨fun τ=>stableE_det _,leans_not⟩,?_⟩
  intro a w O hk
  have e144:a.eval (.tmp 144)=.pointer (some ⟨gm,7,none⟩):=hk.fact 41 _ 144 rfl rfl rfl rfl
  have e143:a.eval (.tmp 143)=.bool false:=hk.fact 40 _ 143 rfl rfl rfl rfl
  have x20:=hk.world.still hx20 (fun ⟨_,h⟩=>h.elim And.right And.right)
  have x21:=hk.world.still hx21 (fun ⟨_,h⟩=>h.elim And.right And.right)
  have x22:=hk.world.still hx22 (fun ⟨_,h⟩=>h.elim And.right And.right)
  have x10:=hk.world.still hx10 (fun ⟨_,h⟩=>h.elim And.right And.right)
  have x11:=hk.world.still hx11 (fun ⟨_,h⟩=>h.elim And.right And.right)
  have x12:=hk.world.still hx12 (fun ⟨_,h⟩=>h.elim And.right And.right)
  have hfx:∀ k,k<B→w.heap[k]?=w0.heap[k]?:=fun k hk'=>hk.fix k ((fun k hk'=>est2_fix (Nat.lt_of_lt_of_le hk' hB) (fun e=>e.elim) (fun e=>e.elim)) k hk')
  have hsz:=hk.world.size
  have y20:=hin20.same (w':=w) (fun k hk' _=>hfx k hk')
  have y21:=hin21.same (w':=w) (fun k hk' _=>hfx k hk')
  have y22:=hin22.same (w':=w) (fun k hk' _=>hfx k hk')
  have y10:=hin10.same (w':=w) (fun k hk' _=>hfx k hk')
  have y11:=hin11.same (w':=w) (fun k hk' _=>hfx k hk')
  have y12:=hin12.same (w':=w) (fun k hk' _=>hfx k hk')
  have hcdp:∀ j,w.cell? ⟨dp,j,none⟩=w0.cell? ⟨dp,j,none⟩:=fun j=>cell_same (hfx _ hpd)
  have hcdm:∀ j,w.cell? ⟨dm,j,none⟩=w0.cell? ⟨dm,j,none⟩:=fun j=>cell_same (hfx _ hmd)
  have hcde:∀ j,w.cell? ⟨de,j,none⟩=w0.cell? ⟨de,j,none⟩:=fun j=>cell_same (hfx _ hed)
  obtain ⟨p0,p1,p2,p3,p4,p5,p6,p7⟩:=row8 x21
  rw [hmK,hml] at p7
  exact obE_run (wanted_of rfl rfl rfl e143) (by unfold execOp;simp only [];rw [e144];go_simp) rfl
 ·refine ⟨⟨fun τ=>stableE_det _,leans_not⟩,?_⟩
  intro a w O hk
  have e145:a.eval (.tmp 145)=.slice (some ⟨dm,om,none⟩) 2 pm.e:=hk.fact 42 _ 145 rfl rfl rfl rfl
  have e143:a.eval (.tmp 143)=.bool false:=hk.fact 40 _ 143 rfl rfl rfl rfl
  have x20:=hk.world.still hx20 (fun ⟨_,h⟩=>h.elim And.right And.right)
  have x21:=hk.world.still hx21 (fun ⟨_,h⟩=>h.elim And.right And.right)
  have x22:=hk.world.still hx22 (fun ⟨_,h⟩=>h.elim And.right And.right)
  have x10:=hk.world.still hx10 (fun ⟨_,h⟩=>h.elim And.right And.right)
  have x11:=hk.world.still hx11 (fun ⟨_,h⟩=>h.elim And.right And.right)
  have x12:=hk.world.still hx12 (fun ⟨_,h⟩=>h.elim And.right And.right)
  have hfx:∀ k,k<B→w.heap[k]?=w0.heap[k]?:=fun k hk'=>hk.fix k ((fun k hk'=>est2_fix (Nat.lt_of_lt_of_le hk' hB) (fun e=>e.elim) (fun e=>e.elim)) k hk')
  have hsz:=hk.world.size
  have y20:=hin20.same (w':=w) (fun k hk' _=>hfx k hk')
  have y21:=hin21.same (w':=w) (fun k hk' _=>hfx k hk')
  have y22:=hin22.same (w':=w) (fun k hk' _=>hfx k hk')
  have y10:=hin10.same (w':=w) (fun k hk' _=>hfx k hk')
  have y11:=hin11.same (w':=w) (fun k hk' _=>hfx k hk')
  have y12:=hin12.same (w':=w) (fun k hk' _=>hfx k hk')
  have hcdp:∀ j,w.cell? ⟨dp,j,none⟩=w0.cell? ⟨dp,j,none⟩:=fun j=>cell_same (hfx _ hpd)
  have hcdm:∀ j,w.cell? ⟨dm,j,none⟩=w0.cell? ⟨dm,j,none⟩:=fun j=>cell_same (hfx _ hmd)
  have hcde:∀ j,w.cell? ⟨de,j,none⟩=w0.cell? ⟨de,j,none⟩:=fun j=>cell_same (hfx _ hed)
  exact obE_run (wanted_of rfl rfl rfl e143) (by unfold execOp;simp only [];rw [e145];go_simp) rfl
 ·refine ⟨⟨fun τ=>stableE_det _,leans_not⟩,?_⟩
  intro a w O hk
  have e146:a.eval (.tmp 146)=.pointer (some ⟨dm,om,none⟩):=hk.fact 43 _ 146 rfl rfl rfl rfl
  have e143:a.eval (.tmp 143)=.bool false:=hk.fact 40 _ 143 rfl rfl rfl rfl
  have x20:=hk.world.still hx20 (fun ⟨_,h⟩=>h.elim And.right And.right)
  have x21:=hk.world.still hx21 (fun ⟨_,h⟩=>h.elim And.right And.right)
  have x22:=hk.world.still hx22 (fun ⟨_,h⟩=>h.elim And.right And.right)
  have x10:=hk.world.still hx10 (fun ⟨_,h⟩=>h.elim And.right And.right)
  have x11:=hk.world.still hx11 (fun ⟨_,h⟩=>h.elim And.right And.right)
  have x12:=hk.world.still hx12 (fun ⟨_,h⟩=>h.elim And.right And.right)
  have hfx:∀ k,k<B→w.heap[k]?=w0.heap[k]?:=fun k hk'=>hk.fix k ((fun k hk'=>est2_fix (Nat.lt_of_lt_of_le hk' hB) (fun e=>e.elim) (fun e=>e.elim)) k hk')
  have hsz:=hk.world.size
  have y20:=hin20.same (w':=w) (fun k hk' _=>hfx k hk')
  have y21:=hin21.same (w':=w) (fun k hk' _=>hfx k hk')
  have y22:=hin22.same (w':=w) (fun k hk' _=>hfx k hk')
  have y10:=hin10.same (w':=w) (fun k hk' _=>hfx k hk')
  have y11:=hin11.same (w':=w) (fun k hk' _=>hfx k hk')
  have y12:=hin12.same (w':=w) (fun k hk' _=>hfx k hk')
  have hcdp:∀ j,w.cell? ⟨dp,j,none⟩=w0.cell? ⟨dp,j,none⟩:=fun j=>cell_same (hfx _ hpd)
  have hcdm:∀ j,w.cell? ⟨dm,j,none⟩=w0.cell? ⟨dm,j,none⟩:=fun j=>cell_same (hfx _ hmd)
  have hcde:∀ j,w.cell? ⟨de,j,none⟩=w0.cell? ⟨de,j,none⟩:=fun j=>cell_same (hfx _ hed)
  have r0:=(hcdm _).trans c20
  have r1:=(hcdm _).trans c21
  have r2:=(hcdm _).trans c22
  have r3:=(hcdm _).trans c23
  have r4:=(hcdm _).trans c24
  have r5:=(hcdm _).trans c25
  have r6:=(hcdm _).trans c26
  have r7:=(hcdm _).trans c27
  exact obE_run (wanted_of rfl rfl rfl e143) (by unfold execOp;simp only [];rw [e146];go_simp;rfl) rfl
 ·refine ⟨⟨fun τ=>stableE_det _,leans_not⟩,?_⟩
  intro a w O hk
  have e10:a.eval (.tmp 10)=.pointer (some ⟨ga,0,none⟩):=(hk.init 10 (initialB_of_nw nw10)).trans hi10
  have e143:a.eval (.tmp 143)=.bool false:=hk.fact 40 _ 143 rfl rfl rfl rfl
  have x20:=hk.world.still hx20 (fun ⟨_,h⟩=>h.elim And.right And.right)
  have x21:=hk.world.still hx21 (fun ⟨_,h⟩=>h.elim And.right And.right)
  have x22:=hk.world.still hx22 (fun ⟨_,h⟩=>h.elim And.right And.right)
  have x10:=hk.world.still hx10 (fun ⟨_,h⟩=>h.elim And.right And.right)
  have x11:=hk.world.still hx11 (fun ⟨_,h⟩=>h.elim And.right And.right)
  have x12:=hk.world.still hx12 (fun ⟨_,h⟩=>h.elim And.right And.right)
  have hfx:∀ k,k<B→w.heap[k]?=w0.heap[k]?:=fun k hk'=>hk.fix k ((fun k hk'=>est2_fix (Nat.lt_of_lt_of_le hk' hB) (fun e=>e.elim) (fun e=>e.elim)) k hk')
  have hsz:=hk.world.size
  have y20:=hin20.same (w':=w) (fun k hk' _=>hfx k hk')
  have y21:=hin21.same (w':=w) (fun k hk' _=>hfx k hk')
  have y22:=hin22.same (w':=w) (fun k hk' _=>hfx k hk')
  have y10:=hin10.same (w':=w) (fun k hk' _=>hfx k hk')
  have y11:=hin11.same (w':=w) (fun k hk' _=>hfx k hk')
  have y12:=hin12.same (w':=w) (fun k hk' _=>hfx k hk')
  have hcdp:∀ j,w.cell? ⟨dp,j,none⟩=w0.cell? ⟨dp,j,none⟩:=fun j=>cell_same (hfx _ hpd)
  have hcdm:∀ j,w.cell? ⟨dm,j,none⟩=w0.cell? ⟨dm,j,none⟩:=fun j=>cell_same (hfx _ hmd)
  have hcde:∀ j,w.cell? ⟨de,j,none⟩=w0.cell? ⟨de,j,none⟩:=fun j=>cell_same (hfx _ hed)
  exact obE_loadRow rfl e10 x10 Try.underlying28 rfl (by kernel_rfl) (wanted_of rfl rfl rfl e143) rfl
 ·refine ⟨⟨fun τ=>stableE_det _,leans_not⟩,?_⟩
  intro a w O hk
  have e147:a.eval (.tmp 147)=tmV q2 k2:=hk.fact 44 _ 147 rfl rfl rfl rfl
  have e148:a.eval (.tmp 148)=tmV pa ta:=hk.fact 45 _ 148 rfl rfl rfl rfl
  have e143:a.eval (.tmp 143)=.bool false:=hk.fact 40 _ 143 rfl rfl rfl rfl
  have x20:=hk.world.still hx20 (fun ⟨_,h⟩=>h.elim And.right And.right)
  have x21:=hk.world.still hx21 (fun ⟨_,h⟩=>h.elim And.right And.right)
  have x22:=hk.world.still hx22 (fun ⟨_,h⟩=>h.elim And.right And.right)
  have x10:=hk.world.still hx10 (fun ⟨_,h⟩=>h.elim And.right And.right)
  have x11:=hk.world.still hx11 (fun ⟨_,h⟩=>h.elim And.right And.right)
  have x12:=hk.world.still hx12 (fun ⟨_,h⟩=>h.elim And.right And.right)
  have hfx:∀ k,k<B→w.heap[k]?=w0.heap[k]?:=fun k hk'=>hk.fix k ((fun k hk'=>est2_fix (Nat.lt_of_lt_of_le hk' hB) (fun e=>e.elim) (fun e=>e.elim)) k hk')
  have hsz:=hk.world.size
  have y20:=hin20.same (w':=w) (fun k hk' _=>hfx k hk')
  have y21:=hin21.same (w':=w) (fun k hk' _=>hfx k hk')
  have y22:=hin22.same (w':=w) (fun k hk' _=>hfx k hk')
  have y10:=hin10.same (w':=w) (fun k hk' _=>hfx k hk')
  have y11:=hin11.same (w':=w) (fun k hk' _=>hfx k hk')
  have y12:=hin12.same (w':=w) (fun k hk' _=>hfx k hk')
  have hcdp:∀ j,w.cell? ⟨dp,j,none⟩=w0.cell? ⟨dp,j,none⟩:=fun j=>cell_same (hfx _ hpd)
  have hcdm:∀ j,w.cell? ⟨dm,j,none⟩=w0.cell? ⟨dm,j,none⟩:=fun j=>cell_same (hfx _ hmd)
  have hcde:∀ j,w.cell? ⟨de,j,none⟩=w0.cell? ⟨de,j,none⟩:=fun j=>cell_same (hfx _ hed)
  exact obE_callV #[tmV q2 k2,tmV pa ta] rfl rfl rfl rfl (by simp only [List.map_cons,List.map_nil];rw [e147,e148];try rfl) (wanted_of rfl rfl rfl e143) ((alike_calls k2 ta q2 pa w co2 (TmIn.mono (hk2.same (w':=w) (fun k hk' _=>hfx k hk')) (Nat.le_trans hB hsz)) (TmIn.mono y10 (Nat.le_trans hB hsz))).mono fun e w' h=>⟨by rw [h.1,al2],h.2⟩)
 ·refine ⟨⟨fun τ=>stableE_det _,leans_not⟩,?_⟩
  intro a w O hk
  have e149:a.eval (.tmp 149)=.bool true:=hk.fact 46 _ 149 rfl rfl rfl rfl
  have e143:a.eval (.tmp 143)=.bool false:=hk.fact 40 _ 143 rfl rfl rfl rfl
  have x20:=hk.world.still hx20 (fun ⟨_,h⟩=>h.elim And.right And.right)
  have x21:=hk.world.still hx21 (fun ⟨_,h⟩=>h.elim And.right And.right)
  have x22:=hk.world.still hx22 (fun ⟨_,h⟩=>h.elim And.right And.right)
  have x10:=hk.world.still hx10 (fun ⟨_,h⟩=>h.elim And.right And.right)
  have x11:=hk.world.still hx11 (fun ⟨_,h⟩=>h.elim And.right And.right)
  have x12:=hk.world.still hx12 (fun ⟨_,h⟩=>h.elim And.right And.right)
  have hfx:∀ k,k<B→w.heap[k]?=w0.heap[k]?:=fun k hk'=>hk.fix k ((fun k hk'=>est2_fix (Nat.lt_of_lt_of_le hk' hB) (fun e=>e.elim) (fun e=>e.elim)) k hk')
  have hsz:=hk.world.size
  have y20:=hin20.same (w':=w) (fun k hk' _=>hfx k hk')
  have y21:=hin21.same (w':=w) (fun k hk' _=>hfx k hk')
  have y22:=hin22.same (w':=w) (fun k hk' _=>hfx k hk')
  have y10:=hin10.same (w':=w) (fun k hk' _=>hfx k hk')
  have y11:=hin11.same (w':=w) (fun k hk' _=>hfx k hk')
  have y12:=hin12.same (w':=w) (fun k hk' _=>hfx k hk')
  have hcdp:∀ j,w.cell? ⟨dp,j,none⟩=w0.cell? ⟨dp,j,none⟩:=fun j=>cell_same (hfx _ hpd)
  have hcdm:∀ j,w.cell? ⟨dm,j,none⟩=w0.cell? ⟨dm,j,none⟩:=fun j=>cell_same (hfx _ hmd)
  have hcde:∀ j,w.cell? ⟨de,j,none⟩=w0.cell? ⟨de,j,none⟩:=fun j=>cell_same (hfx _ hed)
  exact obE_run (wanted_of rfl rfl rfl e143) (by unfold execOp;simp only [];rw [e149];go_simp) rfl
 ·refine ⟨⟨fun τ=>stableE_det _,leans_not⟩,?_⟩
  intro a w O hk
  have e143:a.eval (.tmp 143)=.bool false:=hk.fact 40 _ 143 rfl rfl rfl rfl
  have e150:a.eval (.tmp 150)=.bool false:=hk.fact 47 _ 150 rfl rfl rfl rfl
  exact toE (ob_pick rfl e143 e150 (wanted_none rfl) rfl)
 ·refine ⟨⟨fun τ=>stableE_det _,leans_not⟩,?_⟩
  intro a w O hk
  have e151:a.eval (.tmp 151)=.bool false:=hk.fact 48 _ 151 rfl rfl rfl rfl
  exact toE (ob_move rfl e151 (wanted_none rfl) rfl)
 ·refine ⟨⟨fun τ=>stableE_det _,leans_not⟩,?_⟩
  intro a w O hk
  have e22:a.eval (.tmp 22)=.pointer (some ⟨ge,0,none⟩):=(hk.init 22 (initialB_of_nw nw22)).trans hi22
  have e152:a.eval (.tmp 152)=.bool false:=hk.fact 49 _ 152 rfl rfl rfl rfl
  have x20:=hk.world.still hx20 (fun ⟨_,h⟩=>h.elim And.right And.right)
  have x21:=hk.world.still hx21 (fun ⟨_,h⟩=>h.elim And.right And.right)
  have x22:=hk.world.still hx22 (fun ⟨_,h⟩=>h.elim And.right And.right)
  have x10:=hk.world.still hx10 (fun ⟨_,h⟩=>h.elim And.right And.right)
  have x11:=hk.world.still hx11 (fun ⟨_,h⟩=>h.elim And.right And.right)
  have x12:=hk.world.still hx12 (fun ⟨_,h⟩=>h.elim And.right And.right)
  have hfx:∀ k,k<B→w.heap[k]?=w0.heap[k]?:=fun k hk'=>hk.fix k ((fun k hk'=>est2_fix (Nat.lt_of_lt_of_le hk' hB) (fun e=>e.elim) (fun e=>e.elim)) k hk')
  have hsz:=hk.world.size
  have y20:=hin20.same (w':=w) (fun k hk' _=>hfx k hk')
  have y21:=hin21.same (w':=w) (fun k hk' _=>hfx k hk')
  have y22:=hin22.same (w':=w) (fun k hk' _=>hfx k hk')
  have y10:=hin10.same (w':=w) (fun k hk' _=>hfx k hk')
  have y11:=hin11.same (w':=w) (fun k hk' _=>hfx k hk')
  have y12:=hin12.same (w':=w) (fun k hk' _=>hfx k hk')
  have hcdp:∀ j,w.cell? ⟨dp,j,none⟩=w0.cell? ⟨dp,j,none⟩:=fun j=>cell_same (hfx _ hpd)
  have hcdm:∀ j,w.cell? ⟨dm,j,none⟩=w0.cell? ⟨dm,j,none⟩:=fun j=>cell_same (hfx _ hmd)
  have hcde:∀ j,w.cell? ⟨de,j,none⟩=w0.cell? ⟨de,j,none⟩:=fun j=>cell_same (hfx _ hed)
  exact obE_run (wanted_of rfl rfl rfl e152) (by unfold execOp;simp only [];rw [e22];go_simp) rfl
 ·refine ⟨⟨fun τ=>stableE_det _,leans_not⟩,?_⟩
  intro a w O hk
  have e153:a.eval (.tmp 153)=.pointer (some ⟨ge,7,none⟩):=hk.fact 50 _ 153 rfl rfl rfl rfl
  have e152:a.eval (.tmp 152)=.bool false:=hk.fact 49 _ 152 rfl rfl rfl rfl
  have x20:=hk.world.still hx20 (fun ⟨_,h⟩=>h.elim And.right And.right)
  have x21:=hk.world.still hx21 (fun ⟨_,h⟩=>h.elim And.right And.right)
  have x22:=hk.world.still hx22 (fun ⟨_,h⟩=>h.elim And.right And.right)
  have x10:=hk.world.still hx10 (fun ⟨_,h⟩=>h.elim And.right And.right)
  have x11:=hk.world.still hx11 (fun ⟨_,h⟩=>h.elim And.right And.right)
  have x12:=hk.world.still hx12 (fun ⟨_,h⟩=>h.elim And.right And.right)
  have hfx:∀ k,k<B→w.heap[k]?=w0.heap[k]?:=fun k hk'=>hk.fix k ((fun k hk'=>est2_fix (Nat.lt_of_lt_of_le hk' hB) (fun e=>e.elim) (fun e=>e.elim)) k hk')
  have hsz:=hk.world.size
  have y20:=hin20.same (w':=w) (fun k hk' _=>hfx k hk')
  have y21:=hin21.same (w':=w) (fun k hk' _=>hfx k hk')
  have y22:=hin22.same (w':=w) (fun k hk' _=>hfx k hk')
  have y10:=hin10.same (w':=w) (fun k hk' _=>hfx k hk')
  have y11:=hin11.same (w':=w) (fun k hk' _=>hfx k hk')
  have y12:=hin12.same (w':=w) (fun k hk' _=>hfx k hk')
  have hcdp:∀ j,w.cell? ⟨dp,j,none⟩=w0.cell? ⟨dp,j,none⟩:=fun j=>cell_same (hfx _ hpd)
  have hcdm:∀ j,w.cell? ⟨dm,j,none⟩=w0.cell? ⟨dm,j,none⟩:=fun j=>cell_same (hfx _ hmd)
  have hcde:∀ j,w.cell? ⟨de,j,none⟩=w0.cell? ⟨de,j,none⟩:=fun j=>cell_same (hfx _ hed)
  obtain ⟨p0,p1,p2,p3,p4,p5,p6,p7⟩:=row8 x22
  rw [heK,hel] at p7
  exact obE_run (wanted_of rfl rfl rfl e152) (by unfold execOp;simp only [];rw [e153];go_simp) rfl
 ·refine ⟨⟨fun τ=>stableE_det _,leans_not⟩,?_⟩
  intro a w O hk
  have e154:a.eval (.tmp 154)=.slice (some ⟨de,oe,none⟩) 3 pe.e:=hk.fact 51 _ 154 rfl rfl rfl rfl
  have e152:a.eval (.tmp 152)=.bool false:=hk.fact 49 _ 152 rfl rfl rfl rfl
  have x20:=hk.world.still hx20 (fun ⟨_,h⟩=>h.elim And.right And.right)
  have x21:=hk.world.still hx21 (fun ⟨_,h⟩=>h.elim And.right And.right)
  have x22:=hk.world.still hx22 (fun ⟨_,h⟩=>h.elim And.right And.right)
  have x10:=hk.world.still hx10 (fun ⟨_,h⟩=>h.elim And.right And.right)
  have x11:=hk.world.still hx11 (fun ⟨_,h⟩=>h.elim And.right And.right)
  have x12:=hk.world.still hx12 (fun ⟨_,h⟩=>h.elim And.right And.right)
  have hfx:∀ k,k<B→w.heap[k]?=w0.heap[k]?:=fun k hk'=>hk.fix k ((fun k hk'=>est2_fix (Nat.lt_of_lt_of_le hk' hB) (fun e=>e.elim) (fun e=>e.elim)) k hk')
  have hsz:=hk.world.size
  have y20:=hin20.same (w':=w) (fun k hk' _=>hfx k hk')
  have y21:=hin21.same (w':=w) (fun k hk' _=>hfx k hk')
  have y22:=hin22.same (w':=w) (fun k hk' _=>hfx k hk')
  have y10:=hin10.same (w':=w) (fun k hk' _=>hfx k hk')
  have y11:=hin11.same (w':=w) (fun k hk' _=>hfx k hk')
  have y12:=hin12.same (w':=w) (fun k hk' _=>hfx k hk')
  have hcdp:∀ j,w.cell? ⟨dp,j,none⟩=w0.cell? ⟨dp,j,none⟩:=fun j=>cell_same (hfx _ hpd)
  have hcdm:∀ j,w.cell? ⟨dm,j,none⟩=w0.cell? ⟨dm,j,none⟩:=fun j=>cell_same (hfx _ hmd)
  have hcde:∀ j,w.cell? ⟨de,j,none⟩=w0.cell? ⟨de,j,none⟩:=fun j=>cell_same (hfx _ hed)
  exact obE_run (wanted_of rfl rfl rfl e152) (by unfold execOp;simp only [];rw [e154];go_simp) rfl
 ·refine ⟨⟨fun τ=>stableE_det _,leans_not⟩,?_⟩
  intro a w O hk
  have e155:a.eval (.tmp 155)=.pointer (some ⟨de,oe+1 * 8,none⟩):=hk.fact 52 _ 155 rfl rfl rfl rfl
  have e152:a.eval (.tmp 152)=.bool false:=hk.fact 49 _ 152 rfl rfl rfl rfl
  have x20:=hk.world.still hx20 (fun ⟨_,h⟩=>h.elim And.right And.right)
  have x21:=hk.world.still hx21 (fun ⟨_,h⟩=>h.elim And.right And.right)
  have x22:=hk.world.still hx22 (fun ⟨_,h⟩=>h.elim And.right And.right)
  have x10:=hk.world.still hx10 (fun ⟨_,h⟩=>h.elim And.right And.right)
  have x11:=hk.world.still hx11 (fun ⟨_,h⟩=>h.elim And.right And.right)
  have x12:=hk.world.still hx12 (fun ⟨_,h⟩=>h.elim And.right And.right)
  have hfx:∀ k,k<B→w.heap[k]?=w0.heap[k]?:=fun k hk'=>hk.fix k ((fun k hk'=>est2_fix (Nat.lt_of_lt_of_le hk' hB) (fun e=>e.elim) (fun e=>e.elim)) k hk')
  have hsz:=hk.world.size
  have y20:=hin20.same (w':=w) (fun k hk' _=>hfx k hk')
  have y21:=hin21.same (w':=w) (fun k hk' _=>hfx k hk')
  have y22:=hin22.same (w':=w) (fun k hk' _=>hfx k hk')
  have y10:=hin10.same (w':=w) (fun k hk' _=>hfx k hk')
  have y11:=hin11.same (w':=w) (fun k hk' _=>hfx k hk')
  have y12:=hin12.same (w':=w) (fun k hk' _=>hfx k hk')
  have hcdp:∀ j,w.cell? ⟨dp,j,none⟩=w0.cell? ⟨dp,j,none⟩:=fun j=>cell_same (hfx _ hpd)
  have hcdm:∀ j,w.cell? ⟨dm,j,none⟩=w0.cell? ⟨dm,j,none⟩:=fun j=>cell_same (hfx _ hmd)
  have hcde:∀ j,w.cell? ⟨de,j,none⟩=w0.cell? ⟨de,j,none⟩:=fun j=>cell_same (hfx _ hed)
  have r0:=(hcde _).trans c30
  have r1:=(hcde _).trans c31
  have r2:=(hcde _).trans c32
  have r3:=(hcde _).trans c33
  have r4:=(hcde _).trans c34
  have r5:=(hcde _).trans c35
  have r6:=(hcde _).trans c36
  have r7:=(hcde _).trans c37
  exact obE_run (wanted_of rfl rfl rfl e152) (by unfold execOp;simp only [];rw [e155];go_simp;rfl) rfl
 ·refine ⟨⟨fun τ=>stableE_det _,leans_not⟩,?_⟩
  intro a w O hk
  have e11:a.eval (.tmp 11)=.pointer (some ⟨gb,0,none⟩):=(hk.init 11 (initialB_of_nw nw11)).trans hi11
  have e152:a.eval (.tmp 152)=.bool false:=hk.fact 49 _ 152 rfl rfl rfl rfl
  have x20:=hk.world.still hx20 (fun ⟨_,h⟩=>h.elim And.right And.right)
  have x21:=hk.world.still hx21 (fun ⟨_,h⟩=>h.elim And.right And.right)
  have x22:=hk.world.still hx22 (fun ⟨_,h⟩=>h.elim And.right And.right)
  have x10:=hk.world.still hx10 (fun ⟨_,h⟩=>h.elim And.right And.right)
  have x11:=hk.world.still hx11 (fun ⟨_,h⟩=>h.elim And.right And.right)
  have x12:=hk.world.still hx12 (fun ⟨_,h⟩=>h.elim And.right And.right)
  have hfx:∀ k,k<B→w.heap[k]?=w0.heap[k]?:=fun k hk'=>hk.fix k ((fun k hk'=>est2_fix (Nat.lt_of_lt_of_le hk' hB) (fun e=>e.elim) (fun e=>e.elim)) k hk')
  have hsz:=hk.world.size
  have y20:=hin20.same (w':=w) (fun k hk' _=>hfx k hk')
  have y21:=hin21.same (w':=w) (fun k hk' _=>hfx k hk')
  have y22:=hin22.same (w':=w) (fun k hk' _=>hfx k hk')
  have y10:=hin10.same (w':=w) (fun k hk' _=>hfx k hk')
  have y11:=hin11.same (w':=w) (fun k hk' _=>hfx k hk')
  have y12:=hin12.same (w':=w) (fun k hk' _=>hfx k hk')
  have hcdp:∀ j,w.cell? ⟨dp,j,none⟩=w0.cell? ⟨dp,j,none⟩:=fun j=>cell_same (hfx _ hpd)
  have hcdm:∀ j,w.cell? ⟨dm,j,none⟩=w0.cell? ⟨dm,j,none⟩:=fun j=>cell_same (hfx _ hmd)
  have hcde:∀ j,w.cell? ⟨de,j,none⟩=w0.cell? ⟨de,j,none⟩:=fun j=>cell_same (hfx _ hed)
  exact obE_loadRow rfl e11 x11 Try.underlying28 rfl (by kernel_rfl) (wanted_of rfl rfl rfl e152) rfl
 ·refine ⟨⟨fun τ=>stableE_det _,leans_not⟩,?_⟩
  intro a w O hk
  have e156:a.eval (.tmp 156)=tmV q3 k3:=hk.fact 53 _ 156 rfl rfl rfl rfl
  have e157:a.eval (.tmp 157)=tmV pb tb:=hk.fact 54 _ 157 rfl rfl rfl rfl
  have e152:a.eval (.tmp 152)=.bool false:=hk.fact 49 _ 152 rfl rfl rfl rfl
  have x20:=hk.world.still hx20 (fun ⟨_,h⟩=>h.elim And.right And.right)
  have x21:=hk.world.still hx21 (fun ⟨_,h⟩=>h.elim And.right And.right)
  have x22:=hk.world.still hx22 (fun ⟨_,h⟩=>h.elim And.right And.right)
  have x10:=hk.world.still hx10 (fun ⟨_,h⟩=>h.elim And.right And.right)
  have x11:=hk.world.still hx11 (fun ⟨_,h⟩=>h.elim And.right And.right)
  have x12:=hk.world.still hx12 (fun ⟨_,h⟩=>h.elim And.right And.right)
  have hfx:∀ k,k<B→w.heap[k]?=w0.heap[k]?:=fun k hk'=>hk.fix k ((fun k hk'=>est2_fix (Nat.lt_of_lt_of_le hk' hB) (fun e=>e.elim) (fun e=>e.elim)) k hk')
  have hsz:=hk.world.size
  have y20:=hin20.same (w':=w) (fun k hk' _=>hfx k hk')
  have y21:=hin21.same (w':=w) (fun k hk' _=>hfx k hk')
  have y22:=hin22.same (w':=w) (fun k hk' _=>hfx k hk')
  have y10:=hin10.same (w':=w) (fun k hk' _=>hfx k hk')
  have y11:=hin11.same (w':=w) (fun k hk' _=>hfx k hk')
  have y12:=hin12.same (w':=w) (fun k hk' _=>hfx k hk')
  have hcdp:∀ j,w.cell? ⟨dp,j,none⟩=w0.cell? ⟨dp,j,none⟩:=fun j=>cell_same (hfx _ hpd)
  have hcdm:∀ j,w.cell? ⟨dm,j,none⟩=w0.cell? ⟨dm,j,none⟩:=fun j=>cell_same (hfx _ hmd)
  have hcde:∀ j,w.cell? ⟨de,j,none⟩=w0.cell? ⟨de,j,none⟩:=fun j=>cell_same (hfx _ hed)
  exact obE_callV #[tmV q3 k3,tmV pb tb] rfl rfl rfl rfl (by simp only [List.map_cons,List.map_nil];rw [e156,e157];try rfl) (wanted_of rfl rfl rfl e152) ((alike_calls k3 tb q3 pb w co3 (TmIn.mono (hk3.same (w':=w) (fun k hk' _=>hfx k hk')) (Nat.le_trans hB hsz)) (TmIn.mono y11 (Nat.le_trans hB hsz))).mono fun e w' h=>⟨by rw [h.1,al3],h.2⟩)
 ·refine ⟨⟨fun τ=>stableE_det _,leans_not⟩,?_⟩
  intro a w O hk
  have e158:a.eval (.tmp 158)=.bool true:=hk.fact 55 _ 158 rfl rfl rfl rfl
  have e152:a.eval (.tmp 152)=.bool false:=hk.fact 49 _ 152 rfl rfl rfl rfl
  have x20:=hk.world.still hx20 (fun ⟨_,h⟩=>h.elim And.right And.right)
  have x21:=hk.world.still hx21 (fun ⟨_,h⟩=>h.elim And.right And.right)
  have x22:=hk.world.still hx22 (fun ⟨_,h⟩=>h.elim And.right And.right)
  have x10:=hk.world.still hx10 (fun ⟨_,h⟩=>h.elim And.right And.right)
  have x11:=hk.world.still hx11 (fun ⟨_,h⟩=>h.elim And.right And.right)
  have x12:=hk.world.still hx12 (fun ⟨_,h⟩=>h.elim And.right And.right)
  have hfx:∀ k,k<B→w.heap[k]?=w0.heap[k]?:=fun k hk'=>hk.fix k ((fun k hk'=>est2_fix (Nat.lt_of_lt_of_le hk' hB) (fun e=>e.elim) (fun e=>e.elim)) k hk')
  have hsz:=hk.world.size
  have y20:=hin20.same (w':=w) (fun k hk' _=>hfx k hk')
  have y21:=hin21.same (w':=w) (fun k hk' _=>hfx k hk')
  have y22:=hin22.same (w':=w) (fun k hk' _=>hfx k hk')
  have y10:=hin10.same (w':=w) (fun k hk' _=>hfx k hk')
  have y11:=hin11.same (w':=w) (fun k hk' _=>hfx k hk')
  have y12:=hin12.same (w':=w) (fun k hk' _=>hfx k hk')
  have hcdp:∀ j,w.cell? ⟨dp,j,none⟩=w0.cell? ⟨dp,j,none⟩:=fun j=>cell_same (hfx _ hpd)
  have hcdm:∀ j,w.cell? ⟨dm,j,none⟩=w0.cell? ⟨dm,j,none⟩:=fun j=>cell_same (hfx _ hmd)
  have hcde:∀ j,w.cell? ⟨de,j,none⟩=w0.cell? ⟨de,j,none⟩:=fun j=>cell_same (hfx _ hed)
  exact obE_run (wanted_of rfl rfl rfl e152) (by unfold execOp;simp only [];rw [e158];go_simp) rfl
 ·refine ⟨⟨fun τ=>stableE_det _,leans_not⟩,?_⟩
  intro a w O hk
  have e152:a.eval (.tmp 152)=.bool false:=hk.fact 49 _ 152 rfl rfl rfl rfl
  have e159:a.eval (.tmp 159)=.bool false:=hk.fact 56 _ 159 rfl rfl rfl rfl
  exact toE (ob_pick rfl e152 e159 (wanted_none rfl) rfl)
 ·refine ⟨⟨fun τ=>stableE_det _,leans_not⟩,?_⟩
  intro a w O hk
  have e160:a.eval (.tmp 160)=.bool false:=hk.fact 57 _ 160 rfl rfl rfl rfl
  exact toE (ob_move rfl e160 (wanted_none rfl) rfl)
 ·refine ⟨⟨fun τ=>stableE_det _,leans_not⟩,?_⟩
  intro a w O hk
  have e22:a.eval (.tmp 22)=.pointer (some ⟨ge,0,none⟩):=(hk.init 22 (initialB_of_nw nw22)).trans hi22
  have e161:a.eval (.tmp 161)=.bool false:=hk.fact 58 _ 161 rfl rfl rfl rfl
  have x20:=hk.world.still hx20 (fun ⟨_,h⟩=>h.elim And.right And.right)
  have x21:=hk.world.still hx21 (fun ⟨_,h⟩=>h.elim And.right And.right)
  have x22:=hk.world.still hx22 (fun ⟨_,h⟩=>h.elim And.right And.right)
  have x10:=hk.world.still hx10 (fun ⟨_,h⟩=>h.elim And.right And.right)
  have x11:=hk.world.still hx11 (fun ⟨_,h⟩=>h.elim And.right And.right)
  have x12:=hk.world.still hx12 (fun ⟨_,h⟩=>h.elim And.right And.right)
  have hfx:∀ k,k<B→w.heap[k]?=w0.heap[k]?:=fun k hk'=>hk.fix k ((fun k hk'=>est2_fix (Nat.lt_of_lt_of_le hk' hB) (fun e=>e.elim) (fun e=>e.elim)) k hk')
  have hsz:=hk.world.size
  have y20:=hin20.same (w':=w) (fun k hk' _=>hfx k hk')
  have y21:=hin21.same (w':=w) (fun k hk' _=>hfx k hk')
  have y22:=hin22.same (w':=w) (fun k hk' _=>hfx k hk')
  have y10:=hin10.same (w':=w) (fun k hk' _=>hfx k hk')
  have y11:=hin11.same (w':=w) (fun k hk' _=>hfx k hk')
  have y12:=hin12.same (w':=w) (fun k hk' _=>hfx k hk')
  have hcdp:∀ j,w.cell? ⟨dp,j,none⟩=w0.cell? ⟨dp,j,none⟩:=fun j=>cell_same (hfx _ hpd)
  have hcdm:∀ j,w.cell? ⟨dm,j,none⟩=w0.cell? ⟨dm,j,none⟩:=fun j=>cell_same (hfx _ hmd)
  have hcde:∀ j,w.cell? ⟨de,j,none⟩=w0.cell? ⟨de,j,none⟩:=fun j=>cell_same (hfx _ hed)
  exact obE_run (wanted_of rfl rfl rfl e161) (by unfold execOp;simp only [];rw [e22];go_simp) rfl
 ·refine ⟨⟨fun τ=>stableE_det _,leans_not⟩,?_⟩
  intro a w O hk
  have e162:a.eval (.tmp 162)=.pointer (some ⟨ge,7,none⟩):=hk.fact 59 _ 162 rfl rfl rfl rfl
  have e161:a.eval (.tmp 161)=.bool false:=hk.fact 58 _ 161 rfl rfl rfl rfl
  have x20:=hk.world.still hx20 (fun ⟨_,h⟩=>h.elim And.right And.right)
  have x21:=hk.world.still hx21 (fun ⟨_,h⟩=>h.elim And.right And.right)
  have x22:=hk.world.still hx22 (fun ⟨_,h⟩=>h.elim And.right And.right)
  have x10:=hk.world.still hx10 (fun ⟨_,h⟩=>h.elim And.right And.right)
  have x11:=hk.world.still hx11 (fun ⟨_,h⟩=>h.elim And.right And.right)
  have x12:=hk.world.still hx12 (fun ⟨_,h⟩=>h.elim And.right And.right)
  have hfx:∀ k,k<B→w.heap[k]?=w0.heap[k]?:=fun k hk'=>hk.fix k ((fun k hk'=>est2_fix (Nat.lt_of_lt_of_le hk' hB) (fun e=>e.elim) (fun e=>e.elim)) k hk')
  have hsz:=hk.world.size
  have y20:=hin20.same (w':=w) (fun k hk' _=>hfx k hk')
  have y21:=hin21.same (w':=w) (fun k hk' _=>hfx k hk')
  have y22:=hin22.same (w':=w) (fun k hk' _=>hfx k hk')
  have y10:=hin10.same (w':=w) (fun k hk' _=>hfx k hk')
  have y11:=hin11.same (w':=w) (fun k hk' _=>hfx k hk')
  have y12:=hin12.same (w':=w) (fun k hk' _=>hfx k hk')
  have hcdp:∀ j,w.cell? ⟨dp,j,none⟩=w0.cell? ⟨dp,j,none⟩:=fun j=>cell_same (hfx _ hpd)
  have hcdm:∀ j,w.cell? ⟨dm,j,none⟩=w0.cell? ⟨dm,j,none⟩:=fun j=>cell_same (hfx _ hmd)
  have hcde:∀ j,w.cell? ⟨de,j,none⟩=w0.cell? ⟨de,j,none⟩:=fun j=>cell_same (hfx _ hed)
  obtain ⟨p0,p1,p2,p3,p4,p5,p6,p7⟩:=row8 x22
  rw [heK,hel] at p7
  exact obE_run (wanted_of rfl rfl rfl e161) (by unfold execOp;simp only [];rw [e162];go_simp) rfl
 ·refine ⟨⟨fun τ=>stableE_det _,leans_not⟩,?_⟩
  intro a w O hk
  have e163:a.eval (.tmp 163)=.slice (some ⟨de,oe,none⟩) 3 pe.e:=hk.fact 60 _ 163 rfl rfl rfl rfl
  have e161:a.eval (.tmp 161)=.bool false:=hk.fact 58 _ 161 rfl rfl rfl rfl
  have x20:=hk.world.still hx20 (fun ⟨_,h⟩=>h.elim And.right And.right)
  have x21:=hk.world.still hx21 (fun ⟨_,h⟩=>h.elim And.right And.right)
  have x22:=hk.world.still hx22 (fun ⟨_,h⟩=>h.elim And.right And.right)
  have x10:=hk.world.still hx10 (fun ⟨_,h⟩=>h.elim And.right And.right)
  have x11:=hk.world.still hx11 (fun ⟨_,h⟩=>h.elim And.right And.right)
  have x12:=hk.world.still hx12 (fun ⟨_,h⟩=>h.elim And.right And.right)
  have hfx:∀ k,k<B→w.heap[k]?=w0.heap[k]?:=fun k hk'=>hk.fix k ((fun k hk'=>est2_fix (Nat.lt_of_lt_of_le hk' hB) (fun e=>e.elim) (fun e=>e.elim)) k hk')
  have hsz:=hk.world.size
  have y20:=hin20.same (w':=w) (fun k hk' _=>hfx k hk')
  have y21:=hin21.same (w':=w) (fun k hk' _=>hfx k hk')
  have y22:=hin22.same (w':=w) (fun k hk' _=>hfx k hk')
  have y10:=hin10.same (w':=w) (fun k hk' _=>hfx k hk')
  have y11:=hin11.same (w':=w) (fun k hk' _=>hfx k hk')
  have y12:=hin12.same (w':=w) (fun k hk' _=>hfx k hk')
  have hcdp:∀ j,w.cell? ⟨dp,j,none⟩=w0.cell? ⟨dp,j,none⟩:=fun j=>cell_same (hfx _ hpd)
  have hcdm:∀ j,w.cell? ⟨dm,j,none⟩=w0.cell? ⟨dm,j,none⟩:=fun j=>cell_same (hfx _ hmd)
  have hcde:∀ j,w.cell? ⟨de,j,none⟩=w0.cell? ⟨de,j,none⟩:=fun j=>cell_same (hfx _ hed)
  exact obE_run (wanted_of rfl rfl rfl e161) (by unfold execOp;simp only [];rw [e163];go_simp) rfl
 ·refine ⟨⟨fun τ=>stableE_det _,leans_not⟩,?_⟩
  intro a w O hk
  have e164:a.eval (.tmp 164)=.pointer (some ⟨de,oe+2 * 8,none⟩):=hk.fact 61 _ 164 rfl rfl rfl rfl
  have e161:a.eval (.tmp 161)=.bool false:=hk.fact 58 _ 161 rfl rfl rfl rfl
  have x20:=hk.world.still hx20 (fun ⟨_,h⟩=>h.elim And.right And.right)
  have x21:=hk.world.still hx21 (fun ⟨_,h⟩=>h.elim And.right And.right)
  have x22:=hk.world.still hx22 (fun ⟨_,h⟩=>h.elim And.right And.right)
  have x10:=hk.world.still hx10 (fun ⟨_,h⟩=>h.elim And.right And.right)
  have x11:=hk.world.still hx11 (fun ⟨_,h⟩=>h.elim And.right And.right)
  have x12:=hk.world.still hx12 (fun ⟨_,h⟩=>h.elim And.right And.right)
  have hfx:∀ k,k<B→w.heap[k]?=w0.heap[k]?:=fun k hk'=>hk.fix k ((fun k hk'=>est2_fix (Nat.lt_of_lt_of_le hk' hB) (fun e=>e.elim) (fun e=>e.elim)) k hk')
  have hsz:=hk.world.size
  have y20:=hin20.same (w':=w) (fun k hk' _=>hfx k hk')
  have y21:=hin21.same (w':=w) (fun k hk' _=>hfx k hk')
  have y22:=hin22.same (w':=w) (fun k hk' _=>hfx k hk')
  have y10:=hin10.same (w':=w) (fun k hk' _=>hfx k hk')
  have y11:=hin11.same (w':=w) (fun k hk' _=>hfx k hk')
  have y12:=hin12.same (w':=w) (fun k hk' _=>hfx k hk')
  have hcdp:∀ j,w.cell? ⟨dp,j,none⟩=w0.cell? ⟨dp,j,none⟩:=fun j=>cell_same (hfx _ hpd)
  have hcdm:∀ j,w.cell? ⟨dm,j,none⟩=w0.cell? ⟨dm,j,none⟩:=fun j=>cell_same (hfx _ hmd)
  have hcde:∀ j,w.cell? ⟨de,j,none⟩=w0.cell? ⟨de,j,none⟩:=fun j=>cell_same (hfx _ hed)
  have r0:=(hcde _).trans c40
  have r1:=(hcde _).trans c41
  have r2:=(hcde _).trans c42
  have r3:=(hcde _).trans c43
  have r4:=(hcde _).trans c44
  have r5:=(hcde _).trans c45
  have r6:=(hcde _).trans c46
  have r7:=(hcde _).trans c47
  exact obE_run (wanted_of rfl rfl rfl e161) (by unfold execOp;simp only [];rw [e164];go_simp;rfl) rfl
 ·refine ⟨⟨fun τ=>stableE_det _,leans_not⟩,?_⟩
  intro a w O hk
  have e12:a.eval (.tmp 12)=.pointer (some ⟨gc,0,none⟩):=(hk.init 12 (initialB_of_nw nw12)).trans hi12
  have e161:a.eval (.tmp 161)=.bool false:=hk.fact 58 _ 161 rfl rfl rfl rfl
  have x20:=hk.world.still hx20 (fun ⟨_,h⟩=>h.elim And.right And.right)
  have x21:=hk.world.still hx21 (fun ⟨_,h⟩=>h.elim And.right And.right)
  have x22:=hk.world.still hx22 (fun ⟨_,h⟩=>h.elim And.right And.right)
  have x10:=hk.world.still hx10 (fun ⟨_,h⟩=>h.elim And.right And.right)
  have x11:=hk.world.still hx11 (fun ⟨_,h⟩=>h.elim And.right And.right)
  have x12:=hk.world.still hx12 (fun ⟨_,h⟩=>h.elim And.right And.right)
  have hfx:∀ k,k<B→w.heap[k]?=w0.heap[k]?:=fun k hk'=>hk.fix k ((fun k hk'=>est2_fix (Nat.lt_of_lt_of_le hk' hB) (fun e=>e.elim) (fun e=>e.elim)) k hk')
  have hsz:=hk.world.size
  have y20:=hin20.same (w':=w) (fun k hk' _=>hfx k hk')
  have y21:=hin21.same (w':=w) (fun k hk' _=>hfx k hk')
  have y22:=hin22.same (w':=w) (fun k hk' _=>hfx k hk')
  have y10:=hin10.same (w':=w) (fun k hk' _=>hfx k hk')
  have y11:=hin11.same (w':=w) (fun k hk' _=>hfx k hk')
  have y12:=hin12.same (w':=w) (fun k hk' _=>hfx k hk')
  have hcdp:∀ j,w.cell? ⟨dp,j,none⟩=w0.cell? ⟨dp,j,none⟩:=fun j=>cell_same (hfx _ hpd)
  have hcdm:∀ j,w.cell? ⟨dm,j,none⟩=w0.cell? ⟨dm,j,none⟩:=fun j=>cell_same (hfx _ hmd)
  have hcde:∀ j,w.cell? ⟨de,j,none⟩=w0.cell? ⟨de,j,none⟩:=fun j=>cell_same (hfx _ hed)
  exact obE_loadRow rfl e12 x12 Try.underlying28 rfl (by kernel_rfl) (wanted_of rfl rfl rfl e161) rfl
 ·refine ⟨⟨fun τ=>stableE_det _,leans_not⟩,?_⟩
  intro a w O hk
  have e165:a.eval (.tmp 165)=tmV q4 k4:=hk.fact 62 _ 165 rfl rfl rfl rfl
  have e166:a.eval (.tmp 166)=tmV pc tc:=hk.fact 63 _ 166 rfl rfl rfl rfl
  have e161:a.eval (.tmp 161)=.bool false:=hk.fact 58 _ 161 rfl rfl rfl rfl
  have x20:=hk.world.still hx20 (fun ⟨_,h⟩=>h.elim And.right And.right)
  have x21:=hk.world.still hx21 (fun ⟨_,h⟩=>h.elim And.right And.right)
  have x22:=hk.world.still hx22 (fun ⟨_,h⟩=>h.elim And.right And.right)
  have x10:=hk.world.still hx10 (fun ⟨_,h⟩=>h.elim And.right And.right)
  have x11:=hk.world.still hx11 (fun ⟨_,h⟩=>h.elim And.right And.right)
  have x12:=hk.world.still hx12 (fun ⟨_,h⟩=>h.elim And.right And.right)
  have hfx:∀ k,k<B→w.heap[k]?=w0.heap[k]?:=fun k hk'=>hk.fix k ((fun k hk'=>est2_fix (Nat.lt_of_lt_of_le hk' hB) (fun e=>e.elim) (fun e=>e.elim)) k hk')
  have hsz:=hk.world.size
  have y20:=hin20.same (w':=w) (fun k hk' _=>hfx k hk')
  have y21:=hin21.same (w':=w) (fun k hk' _=>hfx k hk')
  have y22:=hin22.same (w':=w) (fun k hk' _=>hfx k hk')
  have y10:=hin10.same (w':=w) (fun k hk' _=>hfx k hk')
  have y11:=hin11.same (w':=w) (fun k hk' _=>hfx k hk')
  have y12:=hin12.same (w':=w) (fun k hk' _=>hfx k hk')
  have hcdp:∀ j,w.cell? ⟨dp,j,none⟩=w0.cell? ⟨dp,j,none⟩:=fun j=>cell_same (hfx _ hpd)
  have hcdm:∀ j,w.cell? ⟨dm,j,none⟩=w0.cell? ⟨dm,j,none⟩:=fun j=>cell_same (hfx _ hmd)
  have hcde:∀ j,w.cell? ⟨de,j,none⟩=w0.cell? ⟨de,j,none⟩:=fun j=>cell_same (hfx _ hed)
  exact obE_callV #[tmV q4 k4,tmV pc tc] rfl rfl rfl rfl (by simp only [List.map_cons,List.map_nil];rw [e165,e166];try rfl) (wanted_of rfl rfl rfl e161) ((alike_calls k4 tc q4 pc w co4 (TmIn.mono (hk4.same (w':=w) (fun k hk' _=>hfx k hk')) (Nat.le_trans hB hsz)) (TmIn.mono y12 (Nat.le_trans hB hsz))).mono fun e w' h=>⟨by rw [h.1,al4],h.2⟩)
 ·refine ⟨⟨fun τ=>stableE_det _,leans_not⟩,?_⟩
  intro a w O hk
  have e167:a.eval (.tmp 167)=.bool true:=hk.fact 64 _ 167 rfl rfl rfl rfl
  have e161:a.eval (.tmp 161)=.bool false:=hk.fact 58 _ 161 rfl rfl rfl rfl
  have x20:=hk.world.still hx20 (fun ⟨_,h⟩=>h.elim And.right And.right)
  have x21:=hk.world.still hx21 (fun ⟨_,h⟩=>h.elim And.right And.right)
  have x22:=hk.world.still hx22 (fun ⟨_,h⟩=>h.elim And.right And.right)
  have x10:=hk.world.still hx10 (fun ⟨_,h⟩=>h.elim And.right And.right)
  have x11:=hk.world.still hx11 (fun ⟨_,h⟩=>h.elim And.right And.right)
  have x12:=hk.world.still hx12 (fun ⟨_,h⟩=>h.elim And.right And.right)
  have hfx:∀ k,k<B→w.heap[k]?=w0.heap[k]?:=fun k hk'=>hk.fix k ((fun k hk'=>est2_fix (Nat.lt_of_lt_of_le hk' hB) (fun e=>e.elim) (fun e=>e.elim)) k hk')
  have hsz:=hk.world.size
  have y20:=hin20.same (w':=w) (fun k hk' _=>hfx k hk')
  have y21:=hin21.same (w':=w) (fun k hk' _=>hfx k hk')
  have y22:=hin22.same (w':=w) (fun k hk' _=>hfx k hk')
  have y10:=hin10.same (w':=w) (fun k hk' _=>hfx k hk')
  have y11:=hin11.same (w':=w) (fun k hk' _=>hfx k hk')
  have y12:=hin12.same (w':=w) (fun k hk' _=>hfx k hk')
  have hcdp:∀ j,w.cell? ⟨dp,j,none⟩=w0.cell? ⟨dp,j,none⟩:=fun j=>cell_same (hfx _ hpd)
  have hcdm:∀ j,w.cell? ⟨dm,j,none⟩=w0.cell? ⟨dm,j,none⟩:=fun j=>cell_same (hfx _ hmd)
  have hcde:∀ j,w.cell? ⟨de,j,none⟩=w0.cell? ⟨de,j,none⟩:=fun j=>cell_same (hfx _ hed)
  exact obE_run (wanted_of rfl rfl rfl e161) (by unfold execOp;simp only [];rw [e167];go_simp) rfl
 ·refine ⟨⟨fun τ=>stableE_det _,leans_not⟩,?_⟩
  intro a w O hk
  have e161:a.eval (.tmp 161)=.bool false:=hk.fact 58 _ 161 rfl rfl rfl rfl
  have e168:a.eval (.tmp 168)=.bool false:=hk.fact 65 _ 168 rfl rfl rfl rfl
  exact toE (ob_pick rfl e161 e168 (wanted_none rfl) rfl)
set_option maxRecDepth 100000 in
set_option maxHeartbeats 8000000 in
theorem tk7_region {Q:Exit→Act→World→Prop} {id:Nat} (w0:World) (B:Nat) (gp:Nat) (pp:Pl) (tp:Tm) (gm:Nat) (pm:Pl) (tm:Tm) (ge:Nat) (pe:Pl) (te:Tm) (ga:Nat) (pa:Pl) (ta:Tm) (gb:Nat) (pb:Pl) (tb:Tm) (gc:Nat) (pc:Pl) (tc:Tm) (dp op dm om de oe:Nat) (q1 q2 q3 q4:Pl) (k1 k2 k3 k4:Tm) {s0 s1 s2 s3 s4 s5 s6 s7 s8 s9 s13 s14 s15 s16 s17 s18 s19 s23 s24 s25 s26 s27 s28 s29 s30 s31 s32 s33 s34 s35 s36 s37 s38 s39 s40 s41 s42 s43 s44 s45 s46 s47 s48 s49 s50 s51 s52 s53 s54 s55 s56 s57 s58 s59 s60 s61 s62 s63 s64 s65 s66 s67 s68 s69 s70 s71 s72 s73 s74 s75 s76 s77 s78 s79 s80 s81 s82 s83 s84 s85 s86 s87 s88 s89 s90 s91 s92 s93 s94 s95 s96 s97 s98 s99 s100 s101 s102 s103 s104 s105 s106 s107 s108 s109 s110 s111 s112 s113 s114 s115 s116 s117 s118 s119 s120 s121 s122 s123 s124 s125 s126 s127 s128 s129 s130 s131 s132 s133 s134 s135 s136 s137 s138 s139 s140 s141 s142 s143 s144 s145 s146 s147 s148 s149 s150 s151 s152 s153 s154 s155 s156 s157 s158 s159 s160 s161 s162 s163 s164 s165 s166 s167 s168 s169 s170 s171 s172 s173 s174 s175 s176 s177 s178 s179 s180 s181 s182 s183 s184 s185 s186 s187 s188 s189 s190 s191 s192 s193 s194 s195 s196 s197 s198 s199 s200 s201 s202 s203 s204 s205 s206 s207 s208 s209 s210 s211 s212 s213 s214 s215 s216 s217 s218 s219 s220 s221 s222 s223 s224 s225 s226 s227 s228 s229 s230 s231 s232:Value} (hB:B≤w0.heap.size) (hx20:w0.heap[gp]?=some (tmO pp tp)) (hin20:TmIn w0 B pp tp) (hx21:w0.heap[gm]?=some (tmO pm tm)) (hin21:TmIn w0 B pm tm) (hx22:w0.heap[ge]?=some (tmO pe te)) (hin22:TmIn w0 B pe te) (hx10:w0.heap[ga]?=some (tmO pa ta)) (hin10:TmIn w0 B pa ta) (hx11:w0.heap[gb]?=some (tmO pb tb)) (hin11:TmIn w0 B pb tb) (hx12:w0.heap[gc]?=some (tmO pc tc)) (hin12:TmIn w0 B pc tc) (hpk:tp.kind=3) (hpl:tp.kids.length=2) (hpK:pp.K=some ⟨dp,op,none⟩) (hpe:2≤pp.e∧pp.e≤9223372036854775807) (hpd:dp<B) (hmk:tm.kind=4) (hml:tm.kids.length=2) (hmK:pm.K=some ⟨dm,om,none⟩) (hme:2≤pm.e∧pm.e≤9223372036854775807) (hmd:dm<B) (hek:te.kind=5) (hel:te.kids.length=3) (heK:pe.K=some ⟨de,oe,none⟩) (hee:3≤pe.e∧pe.e≤9223372036854775807) (hed:de<B) (c10:w0.cell? ⟨dp,op+1 * 8,none⟩=some (.int .i64 k1.kind)) (c11:w0.cell? ⟨dp,op+1 * 8+1,none⟩=some (.int .i64 k1.num)) (c12:w0.cell? ⟨dp,op+1 * 8+2,none⟩=some (.string k1.name)) (c13:w0.cell? ⟨dp,op+1 * 8+3,none⟩=some (.int .i64 k1.lv.kind)) (c14:w0.cell? ⟨dp,op+1 * 8+4,none⟩=some (.int .i64 k1.lv.num)) (c15:w0.cell? ⟨dp,op+1 * 8+5,none⟩=some (.slice q1.A k1.lv.kids.length q1.c)) (c16:w0.cell? ⟨dp,op+1 * 8+6,none⟩=some (.slice q1.B k1.ls.length q1.d)) (c17:w0.cell? ⟨dp,op+1 * 8+7,none⟩=some (.slice q1.K k1.kids.length q1.e)) (hk1:TmIn w0 B q1 k1) (co1:okT k1→okT tb→CmpOk k1 tb) (al1:alikeT k1 tb=true) (c20:w0.cell? ⟨dm,om,none⟩=some (.int .i64 k2.kind)) (c21:w0.cell? ⟨dm,om+1,none⟩=some (.int .i64 k2.num)) (c22:w0.cell? ⟨dm,om+2,none⟩=some (.string k2.name)) (c23:w0.cell? ⟨dm,om+3,none⟩=some (.int .i64 k2.lv.kind)) (c24:w0.cell? ⟨dm,om+4,none⟩=some (.int .i64 k2.lv.num)) (c25:w0.cell? ⟨dm,om+5,none⟩=some (.slice q2.A k2.lv.kids.length q2.c)) (c26:w0.cell? ⟨dm,om+6,none⟩=some (.slice q2.B k2.ls.length q2.d)) (c27:w0.cell? ⟨dm,om+7,none⟩=some (.slice q2.K k2.kids.length q2.e)) (hk2:TmIn w0 B q2 k2) (co2:okT k2→okT ta→CmpOk k2 ta) (al2:alikeT k2 ta=true) (c30:w0.cell? ⟨de,oe+1 * 8,none⟩=some (.int .i64 k3.kind)) (c31:w0.cell? ⟨de,oe+1 * 8+1,none⟩=some (.int .i64 k3.num)) (c32:w0.cell? ⟨de,oe+1 * 8+2,none⟩=some (.string k3.name)) (c33:w0.cell? ⟨de,oe+1 * 8+3,none⟩=some (.int .i64 k3.lv.kind)) (c34:w0.cell? ⟨de,oe+1 * 8+4,none⟩=some (.int .i64 k3.lv.num)) (c35:w0.cell? ⟨de,oe+1 * 8+5,none⟩=some (.slice q3.A k3.lv.kids.length q3.c)) (c36:w0.cell? ⟨de,oe+1 * 8+6,none⟩=some (.slice q3.B k3.ls.length q3.d)) (c37:w0.cell? ⟨de,oe+1 * 8+7,none⟩=some (.slice q3.K k3.kids.length q3.e)) (hk3:TmIn w0 B q3 k3) (co3:okT k3→okT tb→CmpOk k3 tb) (al3:alikeT k3 tb=true) (c40:w0.cell? ⟨de,oe+2 * 8,none⟩=some (.int .i64 k4.kind)) (c41:w0.cell? ⟨de,oe+2 * 8+1,none⟩=some (.int .i64 k4.num)) (c42:w0.cell? ⟨de,oe+2 * 8+2,none⟩=some (.string k4.name)) (c43:w0.cell? ⟨de,oe+2 * 8+3,none⟩=some (.int .i64 k4.lv.kind)) (c44:w0.cell? ⟨de,oe+2 * 8+4,none⟩=some (.int .i64 k4.lv.num)) (c45:w0.cell? ⟨de,oe+2 * 8+5,none⟩=some (.slice q4.A k4.lv.kids.length q4.c)) (c46:w0.cell? ⟨de,oe+2 * 8+6,none⟩=some (.slice q4.B k4.ls.length q4.d)) (c47:w0.cell? ⟨de,oe+2 * 8+7,none⟩=some (.slice q4.K k4.kids.length q4.e)) (hk4:TmIn w0 B q4 k4) (co4:okT k4→okT tc→CmpOk k4 tc) (al4:alikeT k4 tc=true)
  (hend:∀ (w':World),Chg (fun k=>False∨False) w0 w'→Q .normal { tmps:=(s0 :: s1 :: s2 :: s3 :: s4 :: s5 :: s6 :: s7 :: s8 :: s9 :: (.pointer (some ⟨ga,0,none⟩)) :: (.pointer (some ⟨gb,0,none⟩)) :: (.pointer (some ⟨gc,0,none⟩)) :: s13 :: s14 :: s15 :: s16 :: s17 :: s18 :: s19 :: (.pointer (some ⟨gp,0,none⟩)) :: (.pointer (some ⟨gm,0,none⟩)) :: (.pointer (some ⟨ge,0,none⟩)) :: s23 :: s24 :: s25 :: s26 :: s27 :: s28 :: s29 :: s30 :: s31 :: s32 :: s33 :: s34 :: s35 :: s36 :: s37 :: s38 :: s39 :: s40 :: s41 :: s42 :: s43 :: s44 :: s45 :: s46 :: s47 :: s48 :: s49 :: s50 :: s51 :: s52 :: s53 :: s54 :: s55 :: s56 :: s57 :: s58 :: s59 :: s60 :: s61 :: s62 :: s63 :: s64 :: s65 :: s66 :: s67 :: s68 :: s69 :: s70 :: s71 :: s72 :: s73 :: s74 :: s75 :: s76 :: s77 :: s78 :: s79 :: s80 :: s81 :: s82 :: s83 :: s84 :: s85 :: s86 :: s87 :: s88 :: s89 :: s90 :: s91 :: s92 :: s93 :: s94 :: s95 :: s96 :: s97 :: s98 :: s99 :: s100 :: s101 :: s102 :: (.pointer (some ⟨gp,0,none⟩)) :: (.int .i64 3) :: (.bool false) :: (.bool false) :: (.pointer (some ⟨gm,0,none⟩)) :: (.int .i64 4) :: (.bool false) :: (.bool false) :: (.bool false) :: (.pointer (some ⟨ge,0,none⟩)) :: (.int .i64 5) :: (.bool false) :: (.bool false) :: (.bool false) :: (.pointer (some ⟨gp,7,none⟩)) :: (.slice (some ⟨dp,op,none⟩) 2 pp.e) :: (.int .i64 2) :: (.bool false) :: (.bool false) :: (.bool false) :: (.pointer (some ⟨gm,7,none⟩)) :: (.slice (some ⟨dm,om,none⟩) 2 pm.e) :: (.int .i64 2) :: (.bool false) :: (.bool false) :: (.bool false) :: (.pointer (some ⟨ge,7,none⟩)) :: (.slice (some ⟨de,oe,none⟩) 3 pe.e) :: (.int .i64 3) :: (.bool false) :: (.bool false) :: (.bool false) :: (.pointer (some ⟨gp,7,none⟩)) :: (.slice (some ⟨dp,op,none⟩) 2 pp.e) :: (.pointer (some ⟨dp,op+1 * 8,none⟩)) :: (tmV q1 k1) :: (tmV pb tb) :: (.bool true) :: (.bool false) :: (.bool false) :: (.bool false) :: (.pointer (some ⟨gm,7,none⟩)) :: (.slice (some ⟨dm,om,none⟩) 2 pm.e) :: (.pointer (some ⟨dm,om,none⟩)) :: (tmV q2 k2) :: (tmV pa ta) :: (.bool true) :: (.bool false) :: (.bool false) :: (.bool false) :: (.pointer (some ⟨ge,7,none⟩)) :: (.slice (some ⟨de,oe,none⟩) 3 pe.e) :: (.pointer (some ⟨de,oe+1 * 8,none⟩)) :: (tmV q3 k3) :: (tmV pb tb) :: (.bool true) :: (.bool false) :: (.bool false) :: (.bool false) :: (.pointer (some ⟨ge,7,none⟩)) :: (.slice (some ⟨de,oe,none⟩) 3 pe.e) :: (.pointer (some ⟨de,oe+2 * 8,none⟩)) :: (tmV q4 k4) :: (tmV pc tc) :: (.bool true) :: (.bool false) :: (.bool false) :: s170 :: s171 :: s172 :: s173 :: s174 :: s175 :: s176 :: s177 :: s178 :: s179 :: s180 :: s181 :: s182 :: s183 :: s184 :: s185 :: s186 :: s187 :: s188 :: s189 :: s190 :: s191 :: s192 :: s193 :: s194 :: s195 :: s196 :: s197 :: s198 :: s199 :: s200 :: s201 :: s202 :: s203 :: s204 :: s205 :: s206 :: s207 :: s208 :: s209 :: s210 :: s211 :: s212 :: s213 :: s214 :: s215 :: s216 :: s217 :: s218 :: s219 :: s220 :: s221 :: s222 :: s223 :: s224 :: s225 :: s226 :: s227 :: s228 :: s229 :: s230 :: s231 :: s232 :: []:List Value).toArray,defers:=[] } w') :
  (Code.region id tk7_ops.toArray true).wp Try.prog Q { tmps:=(s0 :: s1 :: s2 :: s3 :: s4 :: s5 :: s6 :: s7 :: s8 :: s9 :: (.pointer (some ⟨ga,0,none⟩)) :: (.pointer (some ⟨gb,0,none⟩)) :: (.pointer (some ⟨gc,0,none⟩)) :: s13 :: s14 :: s15 :: s16 :: s17 :: s18 :: s19 :: (.pointer (some ⟨gp,0,none⟩)) :: (.pointer (some ⟨gm,0,none⟩)) :: (.pointer (some ⟨ge,0,none⟩)) :: s23 :: s24 :: s25 :: s26 :: s27 :: s28 :: s29 :: s30 :: s31 :: s32 :: s33 :: s34 :: s35 :: s36 :: s37 :: s38 :: s39 :: s40 :: s41 :: s42 :: s43 :: s44 :: s45 :: s46 :: s47 :: s48 :: s49 :: s50 :: s51 :: s52 :: s53 :: s54 :: s55 :: s56 :: s57 :: s58 :: s59 :: s60 :: s61 :: s62 :: s63 :: s64 :: s65 :: s66 :: s67 :: s68 :: s69 :: s70 :: s71 :: s72 :: s73 :: s74 :: s75 :: s76 :: s77 :: s78 :: s79 :: s80 :: s81 :: s82 :: s83 :: s84 :: s85 :: s86 :: s87 :: s88 :: s89 :: s90 :: s91 :: s92 :: s93 :: s94 :: s95 :: s96 :: s97 :: s98 :: s99 :: s100 :: s101 :: s102 :: s103 :: s104 :: s105 :: s106 :: s107 :: s108 :: s109 :: s110 :: s111 :: s112 :: s113 :: s114 :: s115 :: s116 :: s117 :: s118 :: s119 :: s120 :: s121 :: s122 :: s123 :: s124 :: s125 :: s126 :: s127 :: s128 :: s129 :: s130 :: s131 :: s132 :: s133 :: s134 :: s135 :: s136 :: s137 :: s138 :: s139 :: s140 :: s141 :: s142 :: s143 :: s144 :: s145 :: s146 :: s147 :: s148 :: s149 :: s150 :: s151 :: s152 :: s153 :: s154 :: s155 :: s156 :: s157 :: s158 :: s159 :: s160 :: s161 :: s162 :: s163 :: s164 :: s165 :: s166 :: s167 :: s168 :: s169 :: s170 :: s171 :: s172 :: s173 :: s174 :: s175 :: s176 :: s177 :: s178 :: s179 :: s180 :: s181 :: s182 :: s183 :: s184 :: s185 :: s186 :: s187 :: s188 :: s189 :: s190 :: s191 :: s192 :: s193 :: s194 :: s195 :: s196 :: s197 :: s198 :: s199 :: s200 :: s201 :: s202 :: s203 :: s204 :: s205 :: s206 :: s207 :: s208 :: s209 :: s210 :: s211 :: s212 :: s213 :: s214 :: s215 :: s216 :: s217 :: s218 :: s219 :: s220 :: s221 :: s222 :: s223 :: s224 :: s225 :: s226 :: s227 :: s228 :: s229 :: s230 :: s231 :: s232 :: []:List Value).toArray,defers:=[] } w0:=by
 refine wp_region_est (by kernel_rfl) (est2 0 0 (fun _=>False) (fun _=>False)) tk7_C (tk7_F w0 B gp pp tp gm pm tm ge pe te ga pa ta gb pb tb gc pc tc dp op dm om de oe q1 q2 q3 q4 k1 k2 k3 k4) (est2_dis (fun _ h _=>h)) (est2_range (fun _ h=>h.elim) (fun _ h=>h.elim)) (by rfl) (by kernel_rfl) (tk7_obs w0.drew B gp pp tp gm pm tm ge pe te ga pa ta gb pb tb gc pc tc dp op dm om de oe q1 q2 q3 q4 k1 k2 k3 k4 hB hx20 (TmS.same hin20 (fun _ _ _=>rfl)) hx21 (TmS.same hin21 (fun _ _ _=>rfl)) hx22 (TmS.same hin22 (fun _ _ _=>rfl)) hx10 (TmS.same hin10 (fun _ _ _=>rfl)) hx11 (TmS.same hin11 (fun _ _ _=>rfl)) hx12 (TmS.same hin12 (fun _ _ _=>rfl)) hpk hpl hpK hpe hpd hmk hml hmK hme hmd hek hel heK hee hed c10 c11 c12 c13 c14 c15 c16 c17 (TmS.same hk1 (fun _ _ _=>rfl)) co1 al1 c20 c21 c22 c23 c24 c25 c26 c27 (TmS.same hk2 (fun _ _ _=>rfl)) co2 al2 c30 c31 c32 c33 c34 c35 c36 c37 (TmS.same hk3 (fun _ _ _=>rfl)) co3 al3 c40 c41 c42 c43 c44 c45 c46 c47 (TmS.same hk4 (fun _ _ _=>rfl)) co4 al4 _ _ rfl rfl rfl rfl rfl rfl) ?_
 intro a w' O hd hs hb hf hf2 ha hsame
 have hl:=slots_eq (ops:=tk7_ops.toArray) ((103,.pointer (some ⟨gp,0,none⟩)) :: (104,.int .i64 3) :: (105,.bool false) :: (106,.bool false) :: (107,.pointer (some ⟨gm,0,none⟩)) :: (108,.int .i64 4) :: (109,.bool false) :: (110,.bool false) :: (111,.bool false) :: (112,.pointer (some ⟨ge,0,none⟩)) :: (113,.int .i64 5) :: (114,.bool false) :: (115,.bool false) :: (116,.bool false) :: (117,.pointer (some ⟨gp,7,none⟩)) :: (118,.slice (some ⟨dp,op,none⟩) 2 pp.e) :: (119,.int .i64 2) :: (120,.bool false) :: (121,.bool false) :: (122,.bool false) :: (123,.pointer (some ⟨gm,7,none⟩)) :: (124,.slice (some ⟨dm,om,none⟩) 2 pm.e) :: (125,.int .i64 2) :: (126,.bool false) :: (127,.bool false) :: (128,.bool false) :: (129,.pointer (some ⟨ge,7,none⟩)) :: (130,.slice (some ⟨de,oe,none⟩) 3 pe.e) :: (131,.int .i64 3) :: (132,.bool false) :: (133,.bool false) :: (134,.bool false) :: (135,.pointer (some ⟨gp,7,none⟩)) :: (136,.slice (some ⟨dp,op,none⟩) 2 pp.e) :: (137,.pointer (some ⟨dp,op+1 * 8,none⟩)) :: (138,tmV q1 k1) :: (139,tmV pb tb) :: (140,.bool true) :: (141,.bool false) :: (142,.bool false) :: (143,.bool false) :: (144,.pointer (some ⟨gm,7,none⟩)) :: (145,.slice (some ⟨dm,om,none⟩) 2 pm.e) :: (146,.pointer (some ⟨dm,om,none⟩)) :: (147,tmV q2 k2) :: (148,tmV pa ta) :: (149,.bool true) :: (150,.bool false) :: (151,.bool false) :: (152,.bool false) :: (153,.pointer (some ⟨ge,7,none⟩)) :: (154,.slice (some ⟨de,oe,none⟩) 3 pe.e) :: (155,.pointer (some ⟨de,oe+1 * 8,none⟩)) :: (156,tmV q3 k3) :: (157,tmV pb tb) :: (158,.bool true) :: (159,.bool false) :: (160,.bool false) :: (161,.bool false) :: (162,.pointer (some ⟨ge,7,none⟩)) :: (163,.slice (some ⟨de,oe,none⟩) 3 pe.e) :: (164,.pointer (some ⟨de,oe+2 * 8,none⟩)) :: (165,tmV q4 k4) :: (166,tmV pc tc) :: (167,.bool true) :: (168,.bool false) :: (169,.bool false) :: []:List (Nat × Value)) (show a.tmps.size=233 from hs) (fun i h=>hsame i h) ⟨(hf 0 _ 103 rfl rfl (by decide)).1,(hf 1 _ 104 rfl rfl (by decide)).1,(hf 2 _ 105 rfl rfl (by decide)).1,(hf 3 _ 106 rfl rfl (by decide)).1,(hf 4 _ 107 rfl rfl (by decide)).1,(hf 5 _ 108 rfl rfl (by decide)).1,(hf 6 _ 109 rfl rfl (by decide)).1,(hf 7 _ 110 rfl rfl (by decide)).1,(hf 8 _ 111 rfl rfl (by decide)).1,(hf 9 _ 112 rfl rfl (by decide)).1,(hf 10 _ 113 rfl rfl (by decide)).1,(hf 11 _ 114 rfl rfl (by decide)).1,(hf 12 _ 115 rfl rfl (by decide)).1,(hf 13 _ 116 rfl rfl (by decide)).1,(hf 14 _ 117 rfl rfl (by decide)).1,(hf 15 _ 118 rfl rfl (by decide)).1,(hf 16 _ 119 rfl rfl (by decide)).1,(hf 17 _ 120 rfl rfl (by decide)).1,(hf 18 _ 121 rfl rfl (by decide)).1,(hf 19 _ 122 rfl rfl (by decide)).1,(hf 20 _ 123 rfl rfl (by decide)).1,(hf 21 _ 124 rfl rfl (by decide)).1,(hf 22 _ 125 rfl rfl (by decide)).1,(hf 23 _ 126 rfl rfl (by decide)).1,(hf 24 _ 127 rfl rfl (by decide)).1,(hf 25 _ 128 rfl rfl (by decide)).1,(hf 26 _ 129 rfl rfl (by decide)).1,(hf 27 _ 130 rfl rfl (by decide)).1,(hf 28 _ 131 rfl rfl (by decide)).1,(hf 29 _ 132 rfl rfl (by decide)).1,(hf 30 _ 133 rfl rfl (by decide)).1,(hf 31 _ 134 rfl rfl (by decide)).1,(hf 32 _ 135 rfl rfl (by decide)).1,(hf 33 _ 136 rfl rfl (by decide)).1,(hf 34 _ 137 rfl rfl (by decide)).1,(hf 35 _ 138 rfl rfl (by decide)).1,(hf 36 _ 139 rfl rfl (by decide)).1,(hf 37 _ 140 rfl rfl (by decide)).1,(hf 38 _ 141 rfl rfl (by decide)).1,(hf 39 _ 142 rfl rfl (by decide)).1,(hf 40 _ 143 rfl rfl (by decide)).1,(hf 41 _ 144 rfl rfl (by decide)).1,(hf 42 _ 145 rfl rfl (by decide)).1,(hf 43 _ 146 rfl rfl (by decide)).1,(hf 44 _ 147 rfl rfl (by decide)).1,(hf 45 _ 148 rfl rfl (by decide)).1,(hf 46 _ 149 rfl rfl (by decide)).1,(hf 47 _ 150 rfl rfl (by decide)).1,(hf 48 _ 151 rfl rfl (by decide)).1,(hf 49 _ 152 rfl rfl (by decide)).1,(hf 50 _ 153 rfl rfl (by decide)).1,(hf 51 _ 154 rfl rfl (by decide)).1,(hf 52 _ 155 rfl rfl (by decide)).1,(hf 53 _ 156 rfl rfl (by decide)).1,(hf 54 _ 157 rfl rfl (by decide)).1,(hf 55 _ 158 rfl rfl (by decide)).1,(hf 56 _ 159 rfl rfl (by decide)).1,(hf 57 _ 160 rfl rfl (by decide)).1,(hf 58 _ 161 rfl rfl (by decide)).1,(hf 59 _ 162 rfl rfl (by decide)).1,(hf 60 _ 163 rfl rfl (by decide)).1,(hf 61 _ 164 rfl rfl (by decide)).1,(hf 62 _ 165 rfl rfl (by decide)).1,(hf 63 _ 166 rfl rfl (by decide)).1,(hf 64 _ 167 rfl rfl (by decide)).1,(hf 65 _ 168 rfl rfl (by decide)).1,(hf 66 _ 169 rfl rfl (by decide)).1,trivial⟩ (by kernel_rfl)
 obtain ⟨tmps,defers⟩:=a
 obtain rfl:defers=[]:=hd
 have hl':tmps=_:=hl
 rw [hl']
 have hb':=est2_chg hb
 refine Eq.mp ?_ (hend w' ⟨hb'.os,hb'.tape,hb'.output,hb'.size,hb'.block⟩)
 kernel_rfl

def tk11_ops:List Oper:=[
 { dst:=some 174,op:=Go.Op.load 28 (Go.Operand.tmp 10),type:=28,pos:= "law.go:33",after:=#[],guard:=none },
 { dst:=some 175,op:=Go.Op.move (Go.Operand.tmp 7),type:=26,pos:= "law.go:33",after:=#[],guard:=none },
 { dst:=some 176,op:=Go.Op.call { callee:=Go.Callee.value (Go.Operand.func 16),args:=#[Go.Operand.tmp 174,Go.Operand.tmp 175],argTypes:=#[28,26] },type:=28,pos:= "law.go:33",after:=#[{ on:=0,ground:=Go.Ground.data },{ on:=1,ground:=Go.Ground.data }],guard:=none },
 { dst:=some 177,op:=Go.Op.load 28 (Go.Operand.tmp 10),type:=28,pos:= "law.go:33",after:=#[],guard:=none },
 { dst:=some 178,op:=Go.Op.move (Go.Operand.tmp 7),type:=26,pos:= "law.go:33",after:=#[],guard:=none },
 { dst:=some 179,op:=Go.Op.call { callee:=Go.Callee.value (Go.Operand.func 33),args:=#[Go.Operand.tmp 177,Go.Operand.tmp 178],argTypes:=#[28,26] },type:=28,pos:= "law.go:33",after:=#[{ on:=3,ground:=Go.Ground.data },{ on:=4,ground:=Go.Ground.data },{ on:=2,ground:=Go.Ground.chain }],guard:=none },
 { dst:=some 23,op:=Go.Op.alloc 28,type:=0,pos:= "law.go:33",after:=#[],guard:=none },
 { dst:=some 24,op:=Go.Op.alloc 28,type:=0,pos:= "law.go:33",after:=#[],guard:=none },
 { dst:=none,op:=Go.Op.store 28 (Go.Operand.tmp 23) (Go.Operand.tmp 176),type:=0,pos:= "law.go:33",after:=#[{ on:=6,ground:=Go.Ground.data },{ on:=2,ground:=Go.Ground.data },{ on:=5,ground:=Go.Ground.chain },{ on:=0,ground:=Go.Ground.phase },{ on:=1,ground:=Go.Ground.phase },{ on:=2,ground:=Go.Ground.phase },{ on:=3,ground:=Go.Ground.textOnly Go.Departure.lateStores },{ on:=4,ground:=Go.Ground.textOnly Go.Departure.lateStores },{ on:=5,ground:=Go.Ground.textOnly Go.Departure.lateStoresUnsure },{ on:=6,ground:=Go.Ground.phase },{ on:=7,ground:=Go.Ground.phase }],guard:=none },
 { dst:=none,op:=Go.Op.store 28 (Go.Operand.tmp 24) (Go.Operand.tmp 179),type:=0,pos:= "law.go:33",after:=#[{ on:=7,ground:=Go.Ground.data },{ on:=5,ground:=Go.Ground.data },{ on:=8,ground:=Go.Ground.chain },{ on:=0,ground:=Go.Ground.phase },{ on:=1,ground:=Go.Ground.phase },{ on:=2,ground:=Go.Ground.phase },{ on:=3,ground:=Go.Ground.phase },{ on:=4,ground:=Go.Ground.phase },{ on:=5,ground:=Go.Ground.phase },{ on:=6,ground:=Go.Ground.phase },{ on:=7,ground:=Go.Ground.phase },{ on:=8,ground:=Go.Ground.phase }],guard:=none }]
def tk11_F (w0:World) (B:Nat) (ga:Nat) (pa:Pl) (ta:Tm) (Lx:Option Addr) (nx cx:Nat) (qx:Nat→Pl) (xs:List Tm):Nat→(Nat→Value)→Value→World→(Nat→Prop)→Prop:=fun rix=>match rix with
 | 0=>fun _ v _ _=>v=tmV pa ta
 | 1=>fun _ v _ _=>v=.slice Lx nx cx
 | 2=>fun τ v w O=>TmO (fun k=>k<B) (AppsT ta xs) v w O
 | 3=>fun _ v _ _=>v=tmV pa ta
 | 4=>fun _ v _ _=>v=.slice Lx nx cx
 | 5=>fun τ v w O=>TmO (fun k=>k<B) (AppsR ta xs) v w O
 | 6=>fun τ v w O=>∃ p,v=.pointer (some ⟨p,0,none⟩)∧w.heap[p]?=some (tmO plz zeroT)∧O p
 | 7=>fun τ v w O=>∃ p,v=.pointer (some ⟨p,0,none⟩)∧w.heap[p]?=some (tmO plz zeroT)∧O p
 | 8=>fun τ v w O=>∃ p,τ 23=.pointer (some ⟨p,0,none⟩)∧TmBox p (fun k=>k<B) (AppsT ta xs) w O
 | 9=>fun τ v w O=>∃ p,τ 24=.pointer (some ⟨p,0,none⟩)∧TmBox p (fun k=>k<B) (AppsR ta xs) w O
 | _=>fun _ _ _ _=>True
def tk11_C:Nat→List Nat:=fun rix=>match rix with
 | 8=>[6,2]
 | 9=>[7,5]
 | _=>[]
theorem tk11_nw7:nwB tk11_ops.toArray 7=true:=by kernel_rfl
theorem tk11_nw10:nwB tk11_ops.toArray 10=true:=by kernel_rfl
set_option maxRecDepth 100000 in
set_option maxHeartbeats 8000000 in
theorem tk11_obs (w0:World) (B:Nat) (ga:Nat) (pa:Pl) (ta:Tm) (Lx:Option Addr) (nx cx:Nat) (qx:Nat→Pl) (xs:List Tm) (hB:B≤w0.heap.size) (hx10:w0.heap[ga]?=some (tmO pa ta)) (hin10:TmIn w0 B pa ta) (hxs:TmsS w0 (fun k=>k<B) Lx qx xs) (hnx:nx=xs.length) (hn20:nx≤20) (Q:Exit→Act→World→Prop) (a0:Act) (hi7:a0.tmps.getD 7 undef=.slice Lx nx cx) (hi10:a0.tmps.getD 10 undef=.pointer (some ⟨ga,0,none⟩)) :
  ObsE Try.prog tk11_ops.toArray Q (est2 0 0 (fun _=>False) (fun _=>False)) tk11_C (tk11_F w0 B ga pa ta Lx nx cx qx xs) a0 w0 tk11_ops.toArray.toList 0:=by
 have nw7:=tk11_nw7
 have nw10:=tk11_nw10
 refine ⟨?_,?_,?_,?_,?_,?_,?_,?_,?_,?_,trivial⟩
 ·refine ⟨⟨fun τ=>stableE_det _,leans_not⟩,?_⟩
  intro a w O hk
  have e10:a.eval (.tmp 10)=.pointer (some ⟨ga,0,none⟩):=(hk.init 10 (initialB_of_nw nw10)).trans hi10
  have x10:=hk.world.still hx10 (fun ⟨_,h⟩=>h.elim And.right And.right)
  have hfx:∀ k,k<B→w.heap[k]?=w0.heap[k]?:=fun k hk'=>hk.fix k ((fun k hk'=>est2_fix (Nat.lt_of_lt_of_le hk' hB) (fun e=>e.elim) (fun e=>e.elim)) k hk')
  have hsz:=hk.world.size
  have y10:=hin10.same (w':=w) (fun k hk' _=>hfx k hk')
  have ys:=TmsS.same (w':=w) hxs (fun k hk' _=>hfx k hk')
  have yx:TmsAt w B Lx qx xs:=fun i x hx=>⟨(ys i x hx).1.mono fun k _ hz=>hz,(ys i x hx).2⟩
  exact obE_loadRow rfl e10 x10 Try.underlying28 rfl (by kernel_rfl) (wanted_none rfl) rfl
 ·refine ⟨⟨fun τ=>stableE_det _,leans_not⟩,?_⟩
  intro a w O hk
  have e7:a.eval (.tmp 7)=.slice Lx nx cx:=(hk.init 7 (initialB_of_nw nw7)).trans hi7
  exact toE (ob_move rfl e7 (wanted_none rfl) rfl)
 ·refine ⟨⟨fun τ=>stableE_tm (fun k hk'=>est2_fix (Nat.lt_of_lt_of_le hk' hB) (fun e=>e.elim) (fun e=>e.elim)),leans_not⟩,?_⟩
  intro a w O hk
  have e174:a.eval (.tmp 174)=tmV pa ta:=hk.fact 0 _ 174 rfl rfl rfl rfl
  have e175:a.eval (.tmp 175)=.slice Lx nx cx:=hk.fact 1 _ 175 rfl rfl rfl rfl
  have x10:=hk.world.still hx10 (fun ⟨_,h⟩=>h.elim And.right And.right)
  have hfx:∀ k,k<B→w.heap[k]?=w0.heap[k]?:=fun k hk'=>hk.fix k ((fun k hk'=>est2_fix (Nat.lt_of_lt_of_le hk' hB) (fun e=>e.elim) (fun e=>e.elim)) k hk')
  have hsz:=hk.world.size
  have y10:=hin10.same (w':=w) (fun k hk' _=>hfx k hk')
  have ys:=TmsS.same (w':=w) hxs (fun k hk' _=>hfx k hk')
  have yx:TmsAt w B Lx qx xs:=fun i x hx=>⟨(ys i x hx).1.mono fun k _ hz=>hz,(ys i x hx).2⟩
  exact obE_tmCall #[tmV pa ta,.slice Lx nx cx] rfl rfl rfl rfl (by simp only [List.map_cons,List.map_nil];rw [e174,e175];try rfl) (wanted_none rfl) ((Apps_calls B ta pa Lx nx cx qx xs w (Nat.le_trans hB hsz) hnx (by omega) (TmS.mono y10 fun k h _=>h) yx).mono fun e w' ⟨q9,h1,h2,h3⟩=>⟨q9,h1,h2.mono fun k h _=>h.elim (fun h=>.inl (.inl h)) .inr,h3⟩)
 ·refine ⟨⟨fun τ=>stableE_det _,leans_not⟩,?_⟩
  intro a w O hk
  have e10:a.eval (.tmp 10)=.pointer (some ⟨ga,0,none⟩):=(hk.init 10 (initialB_of_nw nw10)).trans hi10
  have x10:=hk.world.still hx10 (fun ⟨_,h⟩=>h.elim And.right And.right)
  have hfx:∀ k,k<B→w.heap[k]?=w0.heap[k]?:=fun k hk'=>hk.fix k ((fun k hk'=>est2_fix (Nat.lt_of_lt_of_le hk' hB) (fun e=>e.elim) (fun e=>e.elim)) k hk')
  have hsz:=hk.world.size
  have y10:=hin10.same (w':=w) (fun k hk' _=>hfx k hk')
  have ys:=TmsS.same (w':=w) hxs (fun k hk' _=>hfx k hk')
  have yx:TmsAt w B Lx qx xs:=fun i x hx=>⟨(ys i x hx).1.mono fun k _ hz=>hz,(ys i x hx).2⟩
  exact obE_loadRow rfl e10 x10 Try.underlying28 rfl (by kernel_rfl) (wanted_none rfl) rfl
 ·refine ⟨⟨fun τ=>stableE_det _,leans_not⟩,?_⟩
  intro a w O hk
  have e7:a.eval (.tmp 7)=.slice Lx nx cx:=(hk.init 7 (initialB_of_nw nw7)).trans hi7
  exact toE (ob_move rfl e7 (wanted_none rfl) rfl)
 ·refine ⟨⟨fun τ=>stableE_tm (fun k hk'=>est2_fix (Nat.lt_of_lt_of_le hk' hB) (fun e=>e.elim) (fun e=>e.elim)),leans_not⟩,?_⟩
  intro a w O hk
  have e177:a.eval (.tmp 177)=tmV pa ta:=hk.fact 3 _ 177 rfl rfl rfl rfl
  have e178:a.eval (.tmp 178)=.slice Lx nx cx:=hk.fact 4 _ 178 rfl rfl rfl rfl
  have x10:=hk.world.still hx10 (fun ⟨_,h⟩=>h.elim And.right And.right)
  have hfx:∀ k,k<B→w.heap[k]?=w0.heap[k]?:=fun k hk'=>hk.fix k ((fun k hk'=>est2_fix (Nat.lt_of_lt_of_le hk' hB) (fun e=>e.elim) (fun e=>e.elim)) k hk')
  have hsz:=hk.world.size
  have y10:=hin10.same (w':=w) (fun k hk' _=>hfx k hk')
  have ys:=TmsS.same (w':=w) hxs (fun k hk' _=>hfx k hk')
  have yx:TmsAt w B Lx qx xs:=fun i x hx=>⟨(ys i x hx).1.mono fun k _ hz=>hz,(ys i x hx).2⟩
  exact obE_tmCall #[tmV pa ta,.slice Lx nx cx] rfl rfl rfl rfl (by simp only [List.map_cons,List.map_nil];rw [e177,e178];try rfl) (wanted_none rfl) ((rApps_calls (fun k=>k<B) w.heap.size (fun k h=>Nat.lt_of_lt_of_le h (Nat.le_trans hB hsz)) ta pa Lx nx cx qx xs w (Nat.le_refl _) hnx (by omega) (TmS.mono y10 fun k h _=>h) ys).mono fun e w' ⟨q9,h1,h2,h3⟩=>⟨q9,h1,h2.mono fun k h _=>h.elim (fun h=>.inl (.inl h)) .inr,h3⟩)
 ·refine ⟨⟨fun τ=>stableE_ex fun p=>stableE_and stableE_pure (stableE_block _ _),leans_not⟩,?_⟩
  intro a w O hk
  have x10:=hk.world.still hx10 (fun ⟨_,h⟩=>h.elim And.right And.right)
  have hfx:∀ k,k<B→w.heap[k]?=w0.heap[k]?:=fun k hk'=>hk.fix k ((fun k hk'=>est2_fix (Nat.lt_of_lt_of_le hk' hB) (fun e=>e.elim) (fun e=>e.elim)) k hk')
  have hsz:=hk.world.size
  have y10:=hin10.same (w':=w) (fun k hk' _=>hfx k hk')
  have ys:=TmsS.same (w':=w) hxs (fun k hk' _=>hfx k hk')
  have yx:TmsAt w B Lx qx xs:=fun i x hx=>⟨(ys i x hx).1.mono fun k _ hz=>hz,(ys i x hx).2⟩
  exact obE_res (w':=w.alloc (tmO plz zeroT)) (fun k=>k=w.heap.size) (wanted_none rfl) (by unfold execOp;simp only [];go_simp;rfl) (Chg.of_below ((Below.refl _ _).alloc (Nat.le_refl _) _)) ⟨_,rfl,blk_new _ _,rfl⟩ (fun k hk=>.inr ⟨by omega,by simp;omega⟩)
 ·refine ⟨⟨fun τ=>stableE_ex fun p=>stableE_and stableE_pure (stableE_block _ _),leans_not⟩,?_⟩
  intro a w O hk
  have x10:=hk.world.still hx10 (fun ⟨_,h⟩=>h.elim And.right And.right)
  have hfx:∀ k,k<B→w.heap[k]?=w0.heap[k]?:=fun k hk'=>hk.fix k ((fun k hk'=>est2_fix (Nat.lt_of_lt_of_le hk' hB) (fun e=>e.elim) (fun e=>e.elim)) k hk')
  have hsz:=hk.world.size
  have y10:=hin10.same (w':=w) (fun k hk' _=>hfx k hk')
  have ys:=TmsS.same (w':=w) hxs (fun k hk' _=>hfx k hk')
  have yx:TmsAt w B Lx qx xs:=fun i x hx=>⟨(ys i x hx).1.mono fun k _ hz=>hz,(ys i x hx).2⟩
  exact obE_res (w':=w.alloc (tmO plz zeroT)) (fun k=>k=w.heap.size) (wanted_none rfl) (by unfold execOp;simp only [];go_simp;rfl) (Chg.of_below ((Below.refl _ _).alloc (Nat.le_refl _) _)) ⟨_,rfl,blk_new _ _,rfl⟩ (fun k hk=>.inr ⟨by omega,by simp;omega⟩)
 ·refine ⟨⟨fun τ=>stableE_ex fun p v w w' O h hz hk=>⟨h.1,stableE_tmbox (fun k hk'=>est2_fix (Nat.lt_of_lt_of_le hk' hB) (fun e=>e.elim) (fun e=>e.elim)) v w w' O h.2 hz hk⟩,fun τ τ' h=>by have e:τ' 23=τ 23:=h 6 _ 23 rfl rfl rfl;show (fun v w O=>∃ p,τ 23=_∧TmBox p _ _ w O)=(fun v w O=>∃ p,τ' 23=_∧TmBox p _ _ w O);rw [e]⟩,?_⟩
  intro a w O hk
  have f23:=hk.fact 6 _ 23 rfl rfl rfl rfl
  have g23:=hk.owns 6 rfl rfl
  have f176:=hk.fact 2 _ 176 rfl rfl rfl rfl
  have g176:=hk.owns 2 rfl rfl
  have x10:=hk.world.still hx10 (fun ⟨_,h⟩=>h.elim And.right And.right)
  have hfx:∀ k,k<B→w.heap[k]?=w0.heap[k]?:=fun k hk'=>hk.fix k ((fun k hk'=>est2_fix (Nat.lt_of_lt_of_le hk' hB) (fun e=>e.elim) (fun e=>e.elim)) k hk')
  have hsz:=hk.world.size
  have y10:=hin10.same (w':=w) (fun k hk' _=>hfx k hk')
  have ys:=TmsS.same (w':=w) hxs (fun k hk' _=>hfx k hk')
  have yx:TmsAt w B Lx qx xs:=fun i x hx=>⟨(ys i x hx).1.mono fun k _ hz=>hz,(ys i x hx).2⟩
  obtain ⟨p9,zp,xp,hOp⟩:=f23
  exact obE_tmPut (T:=fun k=>k<B) rfl (wanted_none rfl) zp xp f176 (.inl ⟨6,by simp [tk11_C],hOp⟩) (fun k h=>.inl ⟨2,by simp [tk11_C],h⟩) (fun h=>(g23 p9 hOp).2 ((fun k hk'=>est2_fix (Nat.lt_of_lt_of_le hk' hB) (fun e=>e.elim) (fun e=>e.elim)) p9 h)) (hk.apart 6 2 rfl rfl rfl rfl (by decide) p9 hOp) zp
 ·refine ⟨⟨fun τ=>stableE_ex fun p v w w' O h hz hk=>⟨h.1,stableE_tmbox (fun k hk'=>est2_fix (Nat.lt_of_lt_of_le hk' hB) (fun e=>e.elim) (fun e=>e.elim)) v w w' O h.2 hz hk⟩,fun τ τ' h=>by have e:τ' 24=τ 24:=h 7 _ 24 rfl rfl rfl;show (fun v w O=>∃ p,τ 24=_∧TmBox p _ _ w O)=(fun v w O=>∃ p,τ' 24=_∧TmBox p _ _ w O);rw [e]⟩,?_⟩
  intro a w O hk
  have f24:=hk.fact 7 _ 24 rfl rfl rfl rfl
  have g24:=hk.owns 7 rfl rfl
  have f179:=hk.fact 5 _ 179 rfl rfl rfl rfl
  have g179:=hk.owns 5 rfl rfl
  have x10:=hk.world.still hx10 (fun ⟨_,h⟩=>h.elim And.right And.right)
  have hfx:∀ k,k<B→w.heap[k]?=w0.heap[k]?:=fun k hk'=>hk.fix k ((fun k hk'=>est2_fix (Nat.lt_of_lt_of_le hk' hB) (fun e=>e.elim) (fun e=>e.elim)) k hk')
  have hsz:=hk.world.size
  have y10:=hin10.same (w':=w) (fun k hk' _=>hfx k hk')
  have ys:=TmsS.same (w':=w) hxs (fun k hk' _=>hfx k hk')
  have yx:TmsAt w B Lx qx xs:=fun i x hx=>⟨(ys i x hx).1.mono fun k _ hz=>hz,(ys i x hx).2⟩
  obtain ⟨p9,zp,xp,hOp⟩:=f24
  exact obE_tmPut (T:=fun k=>k<B) rfl (wanted_none rfl) zp xp f179 (.inl ⟨7,by simp [tk11_C],hOp⟩) (fun k h=>.inl ⟨5,by simp [tk11_C],h⟩) (fun h=>(g24 p9 hOp).2 ((fun k hk'=>est2_fix (Nat.lt_of_lt_of_le hk' hB) (fun e=>e.elim) (fun e=>e.elim)) p9 h)) (hk.apart 7 5 rfl rfl rfl rfl (by decide) p9 hOp) zp
set_option maxRecDepth 100000 in
set_option maxHeartbeats 8000000 in
theorem tk11_region {Q:Exit→Act→World→Prop} {id:Nat} (w0:World) (B:Nat) (ga:Nat) (pa:Pl) (ta:Tm) (Lx:Option Addr) (nx cx:Nat) (qx:Nat→Pl) (xs:List Tm) {s0 s1 s2 s3 s4 s5 s6 s8 s9 s11 s12 s13 s14 s15 s16 s17 s18 s19 s20 s21 s22 s23 s24 s25 s26 s27 s28 s29 s30 s31 s32 s33 s34 s35 s36 s37 s38 s39 s40 s41 s42 s43 s44 s45 s46 s47 s48 s49 s50 s51 s52 s53 s54 s55 s56 s57 s58 s59 s60 s61 s62 s63 s64 s65 s66 s67 s68 s69 s70 s71 s72 s73 s74 s75 s76 s77 s78 s79 s80 s81 s82 s83 s84 s85 s86 s87 s88 s89 s90 s91 s92 s93 s94 s95 s96 s97 s98 s99 s100 s101 s102 s103 s104 s105 s106 s107 s108 s109 s110 s111 s112 s113 s114 s115 s116 s117 s118 s119 s120 s121 s122 s123 s124 s125 s126 s127 s128 s129 s130 s131 s132 s133 s134 s135 s136 s137 s138 s139 s140 s141 s142 s143 s144 s145 s146 s147 s148 s149 s150 s151 s152 s153 s154 s155 s156 s157 s158 s159 s160 s161 s162 s163 s164 s165 s166 s167 s168 s169 s170 s171 s172 s173 s174 s175 s176 s177 s178 s179 s180 s181 s182 s183 s184 s185 s186 s187 s188 s189 s190 s191 s192 s193 s194 s195 s196 s197 s198 s199 s200 s201 s202 s203 s204 s205 s206 s207 s208 s209 s210 s211 s212 s213 s214 s215 s216 s217 s218 s219 s220 s221 s222 s223 s224 s225 s226 s227 s228 s229 s230 s231 s232:Value} (hB:B≤w0.heap.size) (hx10:w0.heap[ga]?=some (tmO pa ta)) (hin10:TmIn w0 B pa ta) (hxs:TmsS w0 (fun k=>k<B) Lx qx xs) (hnx:nx=xs.length) (hn20:nx≤20)
  (hend:∀ (w':World) (u23:Value) (u24:Value) (u176:Value) (u179:Value) (v8:Value) (O8:Nat→Prop) (v9:Value) (O9:Nat→Prop),Chg (fun k=>False∨False) w0 w'→(∃ p,u23=.pointer (some ⟨p,0,none⟩)∧TmBox p (fun k=>k<B) (AppsT ta xs) w' O8)→(∀ k,O8 k→k<w'.heap.size∧¬ Fix w0 (est2 0 0 (fun _=>False) (fun _=>False)) k)→(∃ p,u24=.pointer (some ⟨p,0,none⟩)∧TmBox p (fun k=>k<B) (AppsR ta xs) w' O9)→(∀ k,O9 k→k<w'.heap.size∧¬ Fix w0 (est2 0 0 (fun _=>False) (fun _=>False)) k)→Q .normal { tmps:=(s0 :: s1 :: s2 :: s3 :: s4 :: s5 :: s6 :: (.slice Lx nx cx) :: s8 :: s9 :: (.pointer (some ⟨ga,0,none⟩)) :: s11 :: s12 :: s13 :: s14 :: s15 :: s16 :: s17 :: s18 :: s19 :: s20 :: s21 :: s22 :: u23 :: u24 :: s25 :: s26 :: s27 :: s28 :: s29 :: s30 :: s31 :: s32 :: s33 :: s34 :: s35 :: s36 :: s37 :: s38 :: s39 :: s40 :: s41 :: s42 :: s43 :: s44 :: s45 :: s46 :: s47 :: s48 :: s49 :: s50 :: s51 :: s52 :: s53 :: s54 :: s55 :: s56 :: s57 :: s58 :: s59 :: s60 :: s61 :: s62 :: s63 :: s64 :: s65 :: s66 :: s67 :: s68 :: s69 :: s70 :: s71 :: s72 :: s73 :: s74 :: s75 :: s76 :: s77 :: s78 :: s79 :: s80 :: s81 :: s82 :: s83 :: s84 :: s85 :: s86 :: s87 :: s88 :: s89 :: s90 :: s91 :: s92 :: s93 :: s94 :: s95 :: s96 :: s97 :: s98 :: s99 :: s100 :: s101 :: s102 :: s103 :: s104 :: s105 :: s106 :: s107 :: s108 :: s109 :: s110 :: s111 :: s112 :: s113 :: s114 :: s115 :: s116 :: s117 :: s118 :: s119 :: s120 :: s121 :: s122 :: s123 :: s124 :: s125 :: s126 :: s127 :: s128 :: s129 :: s130 :: s131 :: s132 :: s133 :: s134 :: s135 :: s136 :: s137 :: s138 :: s139 :: s140 :: s141 :: s142 :: s143 :: s144 :: s145 :: s146 :: s147 :: s148 :: s149 :: s150 :: s151 :: s152 :: s153 :: s154 :: s155 :: s156 :: s157 :: s158 :: s159 :: s160 :: s161 :: s162 :: s163 :: s164 :: s165 :: s166 :: s167 :: s168 :: s169 :: s170 :: s171 :: s172 :: s173 :: (tmV pa ta) :: (.slice Lx nx cx) :: u176 :: (tmV pa ta) :: (.slice Lx nx cx) :: u179 :: s180 :: s181 :: s182 :: s183 :: s184 :: s185 :: s186 :: s187 :: s188 :: s189 :: s190 :: s191 :: s192 :: s193 :: s194 :: s195 :: s196 :: s197 :: s198 :: s199 :: s200 :: s201 :: s202 :: s203 :: s204 :: s205 :: s206 :: s207 :: s208 :: s209 :: s210 :: s211 :: s212 :: s213 :: s214 :: s215 :: s216 :: s217 :: s218 :: s219 :: s220 :: s221 :: s222 :: s223 :: s224 :: s225 :: s226 :: s227 :: s228 :: s229 :: s230 :: s231 :: s232 :: []:List Value).toArray,defers:=[] } w') :
  (Code.region id tk11_ops.toArray true).wp Try.prog Q { tmps:=(s0 :: s1 :: s2 :: s3 :: s4 :: s5 :: s6 :: (.slice Lx nx cx) :: s8 :: s9 :: (.pointer (some ⟨ga,0,none⟩)) :: s11 :: s12 :: s13 :: s14 :: s15 :: s16 :: s17 :: s18 :: s19 :: s20 :: s21 :: s22 :: s23 :: s24 :: s25 :: s26 :: s27 :: s28 :: s29 :: s30 :: s31 :: s32 :: s33 :: s34 :: s35 :: s36 :: s37 :: s38 :: s39 :: s40 :: s41 :: s42 :: s43 :: s44 :: s45 :: s46 :: s47 :: s48 :: s49 :: s50 :: s51 :: s52 :: s53 :: s54 :: s55 :: s56 :: s57 :: s58 :: s59 :: s60 :: s61 :: s62 :: s63 :: s64 :: s65 :: s66 :: s67 :: s68 :: s69 :: s70 :: s71 :: s72 :: s73 :: s74 :: s75 :: s76 :: s77 :: s78 :: s79 :: s80 :: s81 :: s82 :: s83 :: s84 :: s85 :: s86 :: s87 :: s88 :: s89 :: s90 :: s91 :: s92 :: s93 :: s94 :: s95 :: s96 :: s97 :: s98 :: s99 :: s100 :: s101 :: s102 :: s103 :: s104 :: s105 :: s106 :: s107 :: s108 :: s109 :: s110 :: s111 :: s112 :: s113 :: s114 :: s115 :: s116 :: s117 :: s118 :: s119 :: s120 :: s121 :: s122 :: s123 :: s124 :: s125 :: s126 :: s127 :: s128 :: s129 :: s130 :: s131 :: s132 :: s133 :: s134 :: s135 :: s136 :: s137 :: s138 :: s139 :: s140 :: s141 :: s142 :: s143 :: s144 :: s145 :: s146 :: s147 :: s148 :: s149 :: s150 :: s151 :: s152 :: s153 :: s154 :: s155 :: s156 :: s157 :: s158 :: s159 :: s160 :: s161 :: s162 :: s163 :: s164 :: s165 :: s166 :: s167 :: s168 :: s169 :: s170 :: s171 :: s172 :: s173 :: s174 :: s175 :: s176 :: s177 :: s178 :: s179 :: s180 :: s181 :: s182 :: s183 :: s184 :: s185 :: s186 :: s187 :: s188 :: s189 :: s190 :: s191 :: s192 :: s193 :: s194 :: s195 :: s196 :: s197 :: s198 :: s199 :: s200 :: s201 :: s202 :: s203 :: s204 :: s205 :: s206 :: s207 :: s208 :: s209 :: s210 :: s211 :: s212 :: s213 :: s214 :: s215 :: s216 :: s217 :: s218 :: s219 :: s220 :: s221 :: s222 :: s223 :: s224 :: s225 :: s226 :: s227 :: s228 :: s229 :: s230 :: s231 :: s232 :: []:List Value).toArray,defers:=[] } w0:=by
 refine wp_region_est (by kernel_rfl) (est2 0 0 (fun _=>False) (fun _=>False)) tk11_C (tk11_F w0 B ga pa ta Lx nx cx qx xs) (est2_dis (fun _ h _=>h)) (est2_range (fun _ h=>h.elim) (fun _ h=>h.elim)) (by rfl) (by kernel_rfl) (tk11_obs w0.drew B ga pa ta Lx nx cx qx xs hB hx10 (TmS.same hin10 (fun _ _ _=>rfl)) (TmsS.same hxs (fun _ _ _=>rfl)) hnx hn20 _ _ rfl rfl) ?_
 intro a w' O hd hs hb hf hf2 ha hsame
 have hl:=slots_eq (ops:=tk11_ops.toArray) [(23,a.tmps.getD 23 undef),(24,a.tmps.getD 24 undef),(174,tmV pa ta),(175,.slice Lx nx cx),(176,a.tmps.getD 176 undef),(177,tmV pa ta),(178,.slice Lx nx cx),(179,a.tmps.getD 179 undef)] (show a.tmps.size=233 from hs) (fun i h=>hsame i h) ⟨rfl,rfl,(hf 0 _ 174 rfl rfl (by decide)).1,(hf 1 _ 175 rfl rfl (by decide)).1,rfl,(hf 3 _ 177 rfl rfl (by decide)).1,(hf 4 _ 178 rfl rfl (by decide)).1,rfl,trivial⟩ (by kernel_rfl)
 obtain ⟨tmps,defers⟩:=a
 obtain rfl:defers=[]:=hd
 have hl':tmps=_:=hl
 rw [hl']
 obtain ⟨⟨v8,hv8⟩,ho8⟩:=hf2 8 _ rfl rfl (by decide)
 obtain ⟨⟨v9,hv9⟩,ho9⟩:=hf2 9 _ rfl rfl (by decide)
 have hb':=est2_chg hb
 refine Eq.mp ?_ (hend w' (tmps.getD 23 undef) (tmps.getD 24 undef) (tmps.getD 176 undef) (tmps.getD 179 undef) v8 (O 8) v9 (O 9) ⟨hb'.os,hb'.tape,hb'.output,hb'.size,hb'.block⟩ hv8 ho8 hv9 ho9)
 kernel_rfl

def tk16_ops:List Oper:=[
 { dst:=some 199,op:=Go.Op.move (Go.Operand.tmp 26),type:=26,pos:= "law.go:39",after:=#[],guard:=none },
 { dst:=some 200,op:=Go.Op.call { callee:=Go.Callee.builtin Go.Builtin.len,args:=#[Go.Operand.tmp 199],argTypes:=#[26] },type:=3,pos:= "law.go:39",after:=#[{ on:=0,ground:=Go.Ground.data }],guard:=none },
 { dst:=some 201,op:=Go.Op.move (Go.Operand.tmp 28),type:=26,pos:= "law.go:39",after:=#[],guard:=none },
 { dst:=some 202,op:=Go.Op.call { callee:=Go.Callee.builtin Go.Builtin.len,args:=#[Go.Operand.tmp 201],argTypes:=#[26] },type:=3,pos:= "law.go:39",after:=#[{ on:=2,ground:=Go.Ground.data }],guard:=none },
 { dst:=some 203,op:=Go.Op.binOp Go.BinOp.neq 3 (Go.Operand.tmp 200) (Go.Operand.tmp 202) 3,type:=4,pos:= "law.go:39",after:=#[{ on:=1,ground:=Go.Ground.data },{ on:=3,ground:=Go.Ground.data }],guard:=none },
 { dst:=some 204,op:=Go.Op.move (Go.Operand.tmp 203),type:=4,pos:= "law.go:39",after:=#[{ on:=4,ground:=Go.Ground.data }],guard:=none },
 { dst:=some 205,op:=Go.Op.load 28 (Go.Operand.tmp 25),type:=28,pos:= "law.go:39",after:=#[{ on:=5,ground:=Go.Ground.guard }],guard:=some (5,false) },
 { dst:=some 206,op:=Go.Op.load 28 (Go.Operand.tmp 27),type:=28,pos:= "law.go:39",after:=#[{ on:=5,ground:=Go.Ground.guard }],guard:=some (5,false) },
 { dst:=some 207,op:=Go.Op.call { callee:=Go.Callee.value (Go.Operand.func 22),args:=#[Go.Operand.tmp 205,Go.Operand.tmp 206],argTypes:=#[28,28] },type:=4,pos:= "law.go:39",after:=#[{ on:=6,ground:=Go.Ground.data },{ on:=7,ground:=Go.Ground.data },{ on:=5,ground:=Go.Ground.chain },{ on:=5,ground:=Go.Ground.guard }],guard:=some (5,false) },
 { dst:=some 208,op:=Go.Op.unOp Go.UnOp.not 4 (Go.Operand.tmp 207),type:=4,pos:= "law.go:39",after:=#[{ on:=8,ground:=Go.Ground.data },{ on:=5,ground:=Go.Ground.guard }],guard:=some (5,false) },
 { dst:=some 209,op:=Go.Op.pick (Go.Operand.tmp 204) (Go.Operand.const (Go.Value.bool true)) (Go.Operand.tmp 208),type:=4,pos:= "law.go:39",after:=#[{ on:=5,ground:=Go.Ground.data },{ on:=9,ground:=Go.Ground.data }],guard:=none },
 { dst:=some 210,op:=Go.Op.move (Go.Operand.tmp 209),type:=4,pos:= "law.go:39",after:=#[{ on:=10,ground:=Go.Ground.data },{ on:=8,ground:=Go.Ground.chain }],guard:=none },
 { dst:=some 211,op:=Go.Op.load 28 (Go.Operand.tmp 23),type:=28,pos:= "law.go:39",after:=#[{ on:=11,ground:=Go.Ground.guard }],guard:=some (11,false) },
 { dst:=some 212,op:=Go.Op.load 28 (Go.Operand.tmp 24),type:=28,pos:= "law.go:39",after:=#[{ on:=11,ground:=Go.Ground.guard }],guard:=some (11,false) },
 { dst:=some 213,op:=Go.Op.call { callee:=Go.Callee.value (Go.Operand.func 22),args:=#[Go.Operand.tmp 211,Go.Operand.tmp 212],argTypes:=#[28,28] },type:=4,pos:= "law.go:39",after:=#[{ on:=12,ground:=Go.Ground.data },{ on:=13,ground:=Go.Ground.data },{ on:=11,ground:=Go.Ground.chain },{ on:=11,ground:=Go.Ground.guard }],guard:=some (11,false) },
 { dst:=some 214,op:=Go.Op.unOp Go.UnOp.not 4 (Go.Operand.tmp 213),type:=4,pos:= "law.go:39",after:=#[{ on:=14,ground:=Go.Ground.data },{ on:=11,ground:=Go.Ground.guard }],guard:=some (11,false) },
 { dst:=some 215,op:=Go.Op.pick (Go.Operand.tmp 210) (Go.Operand.const (Go.Value.bool true)) (Go.Operand.tmp 214),type:=4,pos:= "law.go:39",after:=#[{ on:=11,ground:=Go.Ground.data },{ on:=15,ground:=Go.Ground.data }],guard:=none }]
def tk16_F (w0:World) (B:Nat) (gh:Nat) (ph:Pl) (th:Tm) (gk:Nat) (pk:Pl) (tk:Tm) (gt:Nat) (pt:Pl) (tt:Tm) (gu:Nat) (pu:Pl) (tu:Tm) (A1 A2:Option Addr) (n1 c1 c2:Nat):Nat→(Nat→Value)→Value→World→(Nat→Prop)→Prop:=fun rix=>match rix with
 | 0=>fun _ v _ _=>v=.slice A1 n1 c1
 | 1=>fun _ v _ _=>v=.int .i64 n1
 | 2=>fun _ v _ _=>v=.slice A2 n1 c2
 | 3=>fun _ v _ _=>v=.int .i64 n1
 | 4=>fun _ v _ _=>v=.bool false
 | 5=>fun _ v _ _=>v=.bool false
 | 6=>fun _ v _ _=>v=tmV ph th
 | 7=>fun _ v _ _=>v=tmV pk tk
 | 8=>fun _ v _ _=>v=.bool true
 | 9=>fun _ v _ _=>v=.bool false
 | 10=>fun _ v _ _=>v=.bool false
 | 11=>fun _ v _ _=>v=.bool false
 | 12=>fun _ v _ _=>v=tmV pt tt
 | 13=>fun _ v _ _=>v=tmV pu tu
 | 14=>fun _ v _ _=>v=.bool true
 | 15=>fun _ v _ _=>v=.bool false
 | 16=>fun _ v _ _=>v=.bool false
 | _=>fun _ _ _ _=>True
def tk16_C:Nat→List Nat:=fun rix=>match rix with
 | _=>[]
theorem tk16_nw23:nwB tk16_ops.toArray 23=true:=by kernel_rfl
theorem tk16_nw24:nwB tk16_ops.toArray 24=true:=by kernel_rfl
theorem tk16_nw25:nwB tk16_ops.toArray 25=true:=by kernel_rfl
theorem tk16_nw26:nwB tk16_ops.toArray 26=true:=by kernel_rfl
theorem tk16_nw27:nwB tk16_ops.toArray 27=true:=by kernel_rfl
theorem tk16_nw28:nwB tk16_ops.toArray 28=true:=by kernel_rfl
set_option maxRecDepth 100000 in
set_option maxHeartbeats 8000000 in
theorem tk16_obs (w0:World) (B:Nat) (gh:Nat) (ph:Pl) (th:Tm) (gk:Nat) (pk:Pl) (tk:Tm) (gt:Nat) (pt:Pl) (tt:Tm) (gu:Nat) (pu:Pl) (tu:Tm) (A1 A2:Option Addr) (n1 c1 c2:Nat) (hB:B≤w0.heap.size) (hx25:w0.heap[gh]?=some (tmO ph th)) (hin25:TmIn w0 B ph th) (hx27:w0.heap[gk]?=some (tmO pk tk)) (hin27:TmIn w0 B pk tk) (hx23:w0.heap[gt]?=some (tmO pt tt)) (hin23:TmIn w0 B pt tt) (hx24:w0.heap[gu]?=some (tmO pu tu)) (hin24:TmIn w0 B pu tu) (co1:okT th→okT tk→CmpOk th tk) (co2:okT tt→okT tu→CmpOk tt tu) (al1:alikeT th tk=true) (al2:alikeT tt tu=true) (Q:Exit→Act→World→Prop) (a0:Act) (hi23:a0.tmps.getD 23 undef=.pointer (some ⟨gt,0,none⟩)) (hi24:a0.tmps.getD 24 undef=.pointer (some ⟨gu,0,none⟩)) (hi25:a0.tmps.getD 25 undef=.pointer (some ⟨gh,0,none⟩)) (hi26:a0.tmps.getD 26 undef=.slice A1 n1 c1) (hi27:a0.tmps.getD 27 undef=.pointer (some ⟨gk,0,none⟩)) (hi28:a0.tmps.getD 28 undef=.slice A2 n1 c2) :
  ObsE Try.prog tk16_ops.toArray Q (est2 0 0 (fun _=>False) (fun _=>False)) tk16_C (tk16_F w0 B gh ph th gk pk tk gt pt tt gu pu tu A1 A2 n1 c1 c2) a0 w0 tk16_ops.toArray.toList 0:=by
 have nw23:=tk16_nw23
 have nw24:=tk16_nw24
 have nw25:=tk16_nw25
 have nw26:=tk16_nw26
 have nw27:=tk16_nw27
 have nw28:=tk16_nw28
 refine ⟨?_,?_,?_,?_,?_,?_,?_,?_,?_,?_,?_,?_,?_,?_,?_,?_,?_,trivial⟩
 ·refine ⟨⟨fun τ=>stableE_det _,leans_not⟩,?_⟩
  intro a w O hk
  have e26:a.eval (.tmp 26)=.slice A1 n1 c1:=(hk.init 26 (initialB_of_nw nw26)).trans hi26
  exact toE (ob_move rfl e26 (wanted_none rfl) rfl)
 ·refine ⟨⟨fun τ=>stableE_det _,leans_not⟩,?_⟩
  intro a w O hk
  have e199:a.eval (.tmp 199)=.slice A1 n1 c1:=hk.fact 0 _ 199 rfl rfl rfl rfl
  exact toE (ob_len rfl e199 Try.underlying26 (wanted_none rfl) rfl)
 ·refine ⟨⟨fun τ=>stableE_det _,leans_not⟩,?_⟩
  intro a w O hk
  have e28:a.eval (.tmp 28)=.slice A2 n1 c2:=(hk.init 28 (initialB_of_nw nw28)).trans hi28
  exact toE (ob_move rfl e28 (wanted_none rfl) rfl)
 ·refine ⟨⟨fun τ=>stableE_det _,leans_not⟩,?_⟩
  intro a w O hk
  have e201:a.eval (.tmp 201)=.slice A2 n1 c2:=hk.fact 2 _ 201 rfl rfl rfl rfl
  exact toE (ob_len rfl e201 Try.underlying26 (wanted_none rfl) rfl)
 ·refine ⟨⟨fun τ=>stableE_det _,leans_not⟩,?_⟩
  intro a w O hk
  have e200:a.eval (.tmp 200)=.int .i64 n1:=hk.fact 1 _ 200 rfl rfl rfl rfl
  have e202:a.eval (.tmp 202)=.int .i64 n1:=hk.fact 3 _ 202 rfl rfl rfl rfl
  exact toE (ob_neqInt false rfl e200 e202 (by simp) (wanted_none rfl) rfl)
 ·refine ⟨⟨fun τ=>stableE_det _,leans_not⟩,?_⟩
  intro a w O hk
  have e203:a.eval (.tmp 203)=.bool false:=hk.fact 4 _ 203 rfl rfl rfl rfl
  exact toE (ob_move rfl e203 (wanted_none rfl) rfl)
 ·refine ⟨⟨fun τ=>stableE_det _,leans_not⟩,?_⟩
  intro a w O hk
  have e25:a.eval (.tmp 25)=.pointer (some ⟨gh,0,none⟩):=(hk.init 25 (initialB_of_nw nw25)).trans hi25
  have e204:a.eval (.tmp 204)=.bool false:=hk.fact 5 _ 204 rfl rfl rfl rfl
  have x25:=hk.world.still hx25 (fun ⟨_,h⟩=>h.elim And.right And.right)
  have x27:=hk.world.still hx27 (fun ⟨_,h⟩=>h.elim And.right And.right)
  have x23:=hk.world.still hx23 (fun ⟨_,h⟩=>h.elim And.right And.right)
  have x24:=hk.world.still hx24 (fun ⟨_,h⟩=>h.elim And.right And.right)
  have hfx:∀ k,k<B→w.heap[k]?=w0.heap[k]?:=fun k hk'=>hk.fix k ((fun k hk'=>est2_fix (Nat.lt_of_lt_of_le hk' hB) (fun e=>e.elim) (fun e=>e.elim)) k hk')
  have hsz:=hk.world.size
  have y25:=hin25.same (w':=w) (fun k hk' _=>hfx k hk')
  have y27:=hin27.same (w':=w) (fun k hk' _=>hfx k hk')
  have y23:=hin23.same (w':=w) (fun k hk' _=>hfx k hk')
  have y24:=hin24.same (w':=w) (fun k hk' _=>hfx k hk')
  exact obE_loadRow rfl e25 x25 Try.underlying28 rfl (by kernel_rfl) (wanted_of rfl rfl rfl e204) rfl
 ·refine ⟨⟨fun τ=>stableE_det _,leans_not⟩,?_⟩
  intro a w O hk
  have e27:a.eval (.tmp 27)=.pointer (some ⟨gk,0,none⟩):=(hk.init 27 (initialB_of_nw nw27)).trans hi27
  have e204:a.eval (.tmp 204)=.bool false:=hk.fact 5 _ 204 rfl rfl rfl rfl
  have x25:=hk.world.still hx25 (fun ⟨_,h⟩=>h.elim And.right And.right)
  have x27:=hk.world.still hx27 (fun ⟨_,h⟩=>h.elim And.right And.right)
  have x23:=hk.world.still hx23 (fun ⟨_,h⟩=>h.elim And.right And.right)
  have x24:=hk.world.still hx24 (fun ⟨_,h⟩=>h.elim And.right And.right)
  have hfx:∀ k,k<B→w.heap[k]?=w0.heap[k]?:=fun k hk'=>hk.fix k ((fun k hk'=>est2_fix (Nat.lt_of_lt_of_le hk' hB) (fun e=>e.elim) (fun e=>e.elim)) k hk')
  have hsz:=hk.world.size
  have y25:=hin25.same (w':=w) (fun k hk' _=>hfx k hk')
  have y27:=hin27.same (w':=w) (fun k hk' _=>hfx k hk')
  have y23:=hin23.same (w':=w) (fun k hk' _=>hfx k hk')
  have y24:=hin24.same (w':=w) (fun k hk' _=>hfx k hk')
  exact obE_loadRow rfl e27 x27 Try.underlying28 rfl (by kernel_rfl) (wanted_of rfl rfl rfl e204) rfl
 ·refine ⟨⟨fun τ=>stableE_det _,leans_not⟩,?_⟩
  intro a w O hk
  have e205:a.eval (.tmp 205)=tmV ph th:=hk.fact 6 _ 205 rfl rfl rfl rfl
  have e206:a.eval (.tmp 206)=tmV pk tk:=hk.fact 7 _ 206 rfl rfl rfl rfl
  have e204:a.eval (.tmp 204)=.bool false:=hk.fact 5 _ 204 rfl rfl rfl rfl
  have x25:=hk.world.still hx25 (fun ⟨_,h⟩=>h.elim And.right And.right)
  have x27:=hk.world.still hx27 (fun ⟨_,h⟩=>h.elim And.right And.right)
  have x23:=hk.world.still hx23 (fun ⟨_,h⟩=>h.elim And.right And.right)
  have x24:=hk.world.still hx24 (fun ⟨_,h⟩=>h.elim And.right And.right)
  have hfx:∀ k,k<B→w.heap[k]?=w0.heap[k]?:=fun k hk'=>hk.fix k ((fun k hk'=>est2_fix (Nat.lt_of_lt_of_le hk' hB) (fun e=>e.elim) (fun e=>e.elim)) k hk')
  have hsz:=hk.world.size
  have y25:=hin25.same (w':=w) (fun k hk' _=>hfx k hk')
  have y27:=hin27.same (w':=w) (fun k hk' _=>hfx k hk')
  have y23:=hin23.same (w':=w) (fun k hk' _=>hfx k hk')
  have y24:=hin24.same (w':=w) (fun k hk' _=>hfx k hk')
  exact obE_callV #[tmV ph th,tmV pk tk] rfl rfl rfl rfl (by simp only [List.map_cons,List.map_nil];rw [e205,e206];try rfl) (wanted_of rfl rfl rfl e204) ((alike_calls th tk ph pk w co1 (TmIn.mono y25 (Nat.le_trans hB hsz)) (TmIn.mono y27 (Nat.le_trans hB hsz))).mono fun e w' h=>⟨by rw [h.1,al1],h.2⟩)
 ·refine ⟨⟨fun τ=>stableE_det _,leans_not⟩,?_⟩
  intro a w O hk
  have e207:a.eval (.tmp 207)=.bool true:=hk.fact 8 _ 207 rfl rfl rfl rfl
  have e204:a.eval (.tmp 204)=.bool false:=hk.fact 5 _ 204 rfl rfl rfl rfl
  have x25:=hk.world.still hx25 (fun ⟨_,h⟩=>h.elim And.right And.right)
  have x27:=hk.world.still hx27 (fun ⟨_,h⟩=>h.elim And.right And.right)
  have x23:=hk.world.still hx23 (fun ⟨_,h⟩=>h.elim And.right And.right)
  have x24:=hk.world.still hx24 (fun ⟨_,h⟩=>h.elim And.right And.right)
  have hfx:∀ k,k<B→w.heap[k]?=w0.heap[k]?:=fun k hk'=>hk.fix k ((fun k hk'=>est2_fix (Nat.lt_of_lt_of_le hk' hB) (fun e=>e.elim) (fun e=>e.elim)) k hk')
  have hsz:=hk.world.size
  have y25:=hin25.same (w':=w) (fun k hk' _=>hfx k hk')
  have y27:=hin27.same (w':=w) (fun k hk' _=>hfx k hk')
  have y23:=hin23.same (w':=w) (fun k hk' _=>hfx k hk')
  have y24:=hin24.same (w':=w) (fun k hk' _=>hfx k hk')
  exact obE_run (wanted_of rfl rfl rfl e204) (by unfold execOp;simp only [];rw [e207];go_simp) rfl
 ·refine ⟨⟨fun τ=>stableE_det _,leans_not⟩,?_⟩
  intro a w O hk
  have e204:a.eval (.tmp 204)=.bool false:=hk.fact 5 _ 204 rfl rfl rfl rfl
  have e208:a.eval (.tmp 208)=.bool false:=hk.fact 9 _ 208 rfl rfl rfl rfl
  exact toE (ob_pick rfl e204 e208 (wanted_none rfl) rfl)
 ·refine ⟨⟨fun τ=>stableE_det _,leans_not⟩,?_⟩
  intro a w O hk
  have e209:a.eval (.tmp 209)=.bool false:=hk.fact 10 _ 209 rfl rfl rfl rfl
  exact toE (ob_move rfl e209 (wanted_none rfl) rfl)
 ·refine ⟨⟨fun τ=>stableE_det _,leans_not⟩,?_⟩
  intro a w O hk
  have e23:a.eval (.tmp 23)=.pointer (some ⟨gt,0,none⟩):=(hk.init 23 (initialB_of_nw nw23)).trans hi23
  have e210:a.eval (.tmp 210)=.bool false:=hk.fact 11 _ 210 rfl rfl rfl rfl
  have x25:=hk.world.still hx25 (fun ⟨_,h⟩=>h.elim And.right And.right)
  have x27:=hk.world.still hx27 (fun ⟨_,h⟩=>h.elim And.right And.right)
  have x23:=hk.world.still hx23 (fun ⟨_,h⟩=>h.elim And.right And.right)
  have x24:=hk.world.still hx24 (fun ⟨_,h⟩=>h.elim And.right And.right)
  have hfx:∀ k,k<B→w.heap[k]?=w0.heap[k]?:=fun k hk'=>hk.fix k ((fun k hk'=>est2_fix (Nat.lt_of_lt_of_le hk' hB) (fun e=>e.elim) (fun e=>e.elim)) k hk')
  have hsz:=hk.world.size
  have y25:=hin25.same (w':=w) (fun k hk' _=>hfx k hk')
  have y27:=hin27.same (w':=w) (fun k hk' _=>hfx k hk')
  have y23:=hin23.same (w':=w) (fun k hk' _=>hfx k hk')
  have y24:=hin24.same (w':=w) (fun k hk' _=>hfx k hk')
  exact obE_loadRow rfl e23 x23 Try.underlying28 rfl (by kernel_rfl) (wanted_of rfl rfl rfl e210) rfl
 ·refine ⟨⟨fun τ=>stableE_det _,leans_not⟩,?_⟩
  intro a w O hk
  have e24:a.eval (.tmp 24)=.pointer (some ⟨gu,0,none⟩):=(hk.init 24 (initialB_of_nw nw24)).trans hi24
  have e210:a.eval (.tmp 210)=.bool false:=hk.fact 11 _ 210 rfl rfl rfl rfl
  have x25:=hk.world.still hx25 (fun ⟨_,h⟩=>h.elim And.right And.right)
  have x27:=hk.world.still hx27 (fun ⟨_,h⟩=>h.elim And.right And.right)
  have x23:=hk.world.still hx23 (fun ⟨_,h⟩=>h.elim And.right And.right)
  have x24:=hk.world.still hx24 (fun ⟨_,h⟩=>h.elim And.right And.right)
  have hfx:∀ k,k<B→w.heap[k]?=w0.heap[k]?:=fun k hk'=>hk.fix k ((fun k hk'=>est2_fix (Nat.lt_of_lt_of_le hk' hB) (fun e=>e.elim) (fun e=>e.elim)) k hk')
  have hsz:=hk.world.size
  have y25:=hin25.same (w':=w) (fun k hk' _=>hfx k hk')
  have y27:=hin27.same (w':=w) (fun k hk' _=>hfx k hk')
  have y23:=hin23.same (w':=w) (fun k hk' _=>hfx k hk')
  have y24:=hin24.same (w':=w) (fun k hk' _=>hfx k hk')
  exact obE_loadRow rfl e24 x24 Try.underlying28 rfl (by kernel_rfl) (wanted_of rfl rfl rfl e210) rfl
 ·refine ⟨⟨fun τ=>stableE_det _,leans_not⟩,?_⟩
  intro a w O hk
  have e211:a.eval (.tmp 211)=tmV pt tt:=hk.fact 12 _ 211 rfl rfl rfl rfl
  have e212:a.eval (.tmp 212)=tmV pu tu:=hk.fact 13 _ 212 rfl rfl rfl rfl
  have e210:a.eval (.tmp 210)=.bool false:=hk.fact 11 _ 210 rfl rfl rfl rfl
  have x25:=hk.world.still hx25 (fun ⟨_,h⟩=>h.elim And.right And.right)
  have x27:=hk.world.still hx27 (fun ⟨_,h⟩=>h.elim And.right And.right)
  have x23:=hk.world.still hx23 (fun ⟨_,h⟩=>h.elim And.right And.right)
  have x24:=hk.world.still hx24 (fun ⟨_,h⟩=>h.elim And.right And.right)
  have hfx:∀ k,k<B→w.heap[k]?=w0.heap[k]?:=fun k hk'=>hk.fix k ((fun k hk'=>est2_fix (Nat.lt_of_lt_of_le hk' hB) (fun e=>e.elim) (fun e=>e.elim)) k hk')
  have hsz:=hk.world.size
  have y25:=hin25.same (w':=w) (fun k hk' _=>hfx k hk')
  have y27:=hin27.same (w':=w) (fun k hk' _=>hfx k hk')
  have y23:=hin23.same (w':=w) (fun k hk' _=>hfx k hk')
  have y24:=hin24.same (w':=w) (fun k hk' _=>hfx k hk')
  exact obE_callV #[tmV pt tt,tmV pu tu] rfl rfl rfl rfl (by simp only [List.map_cons,List.map_nil];rw [e211,e212];try rfl) (wanted_of rfl rfl rfl e210) ((alike_calls tt tu pt pu w co2 (TmIn.mono y23 (Nat.le_trans hB hsz)) (TmIn.mono y24 (Nat.le_trans hB hsz))).mono fun e w' h=>⟨by rw [h.1,al2],h.2⟩)
 ·refine ⟨⟨fun τ=>stableE_det _,leans_not⟩,?_⟩
  intro a w O hk
  have e213:a.eval (.tmp 213)=.bool true:=hk.fact 14 _ 213 rfl rfl rfl rfl
  have e210:a.eval (.tmp 210)=.bool false:=hk.fact 11 _ 210 rfl rfl rfl rfl
  have x25:=hk.world.still hx25 (fun ⟨_,h⟩=>h.elim And.right And.right)
  have x27:=hk.world.still hx27 (fun ⟨_,h⟩=>h.elim And.right And.right)
  have x23:=hk.world.still hx23 (fun ⟨_,h⟩=>h.elim And.right And.right)
  have x24:=hk.world.still hx24 (fun ⟨_,h⟩=>h.elim And.right And.right)
  have hfx:∀ k,k<B→w.heap[k]?=w0.heap[k]?:=fun k hk'=>hk.fix k ((fun k hk'=>est2_fix (Nat.lt_of_lt_of_le hk' hB) (fun e=>e.elim) (fun e=>e.elim)) k hk')
  have hsz:=hk.world.size
  have y25:=hin25.same (w':=w) (fun k hk' _=>hfx k hk')
  have y27:=hin27.same (w':=w) (fun k hk' _=>hfx k hk')
  have y23:=hin23.same (w':=w) (fun k hk' _=>hfx k hk')
  have y24:=hin24.same (w':=w) (fun k hk' _=>hfx k hk')
  exact obE_run (wanted_of rfl rfl rfl e210) (by unfold execOp;simp only [];rw [e213];go_simp) rfl
 ·refine ⟨⟨fun τ=>stableE_det _,leans_not⟩,?_⟩
  intro a w O hk
  have e210:a.eval (.tmp 210)=.bool false:=hk.fact 11 _ 210 rfl rfl rfl rfl
  have e214:a.eval (.tmp 214)=.bool false:=hk.fact 15 _ 214 rfl rfl rfl rfl
  exact toE (ob_pick rfl e210 e214 (wanted_none rfl) rfl)
set_option maxRecDepth 100000 in
set_option maxHeartbeats 8000000 in
theorem tk16_region {Q:Exit→Act→World→Prop} {id:Nat} (w0:World) (B:Nat) (gh:Nat) (ph:Pl) (th:Tm) (gk:Nat) (pk:Pl) (tk:Tm) (gt:Nat) (pt:Pl) (tt:Tm) (gu:Nat) (pu:Pl) (tu:Tm) (A1 A2:Option Addr) (n1 c1 c2:Nat) {s0 s1 s2 s3 s4 s5 s6 s7 s8 s9 s10 s11 s12 s13 s14 s15 s16 s17 s18 s19 s20 s21 s22 s29 s30 s31 s32 s33 s34 s35 s36 s37 s38 s39 s40 s41 s42 s43 s44 s45 s46 s47 s48 s49 s50 s51 s52 s53 s54 s55 s56 s57 s58 s59 s60 s61 s62 s63 s64 s65 s66 s67 s68 s69 s70 s71 s72 s73 s74 s75 s76 s77 s78 s79 s80 s81 s82 s83 s84 s85 s86 s87 s88 s89 s90 s91 s92 s93 s94 s95 s96 s97 s98 s99 s100 s101 s102 s103 s104 s105 s106 s107 s108 s109 s110 s111 s112 s113 s114 s115 s116 s117 s118 s119 s120 s121 s122 s123 s124 s125 s126 s127 s128 s129 s130 s131 s132 s133 s134 s135 s136 s137 s138 s139 s140 s141 s142 s143 s144 s145 s146 s147 s148 s149 s150 s151 s152 s153 s154 s155 s156 s157 s158 s159 s160 s161 s162 s163 s164 s165 s166 s167 s168 s169 s170 s171 s172 s173 s174 s175 s176 s177 s178 s179 s180 s181 s182 s183 s184 s185 s186 s187 s188 s189 s190 s191 s192 s193 s194 s195 s196 s197 s198 s199 s200 s201 s202 s203 s204 s205 s206 s207 s208 s209 s210 s211 s212 s213 s214 s215 s216 s217 s218 s219 s220 s221 s222 s223 s224 s225 s226 s227 s228 s229 s230 s231 s232:Value} (hB:B≤w0.heap.size) (hx25:w0.heap[gh]?=some (tmO ph th)) (hin25:TmIn w0 B ph th) (hx27:w0.heap[gk]?=some (tmO pk tk)) (hin27:TmIn w0 B pk tk) (hx23:w0.heap[gt]?=some (tmO pt tt)) (hin23:TmIn w0 B pt tt) (hx24:w0.heap[gu]?=some (tmO pu tu)) (hin24:TmIn w0 B pu tu) (co1:okT th→okT tk→CmpOk th tk) (co2:okT tt→okT tu→CmpOk tt tu) (al1:alikeT th tk=true) (al2:alikeT tt tu=true)
  (hend:∀ (w':World),Chg (fun k=>False∨False) w0 w'→Q .normal { tmps:=(s0 :: s1 :: s2 :: s3 :: s4 :: s5 :: s6 :: s7 :: s8 :: s9 :: s10 :: s11 :: s12 :: s13 :: s14 :: s15 :: s16 :: s17 :: s18 :: s19 :: s20 :: s21 :: s22 :: (.pointer (some ⟨gt,0,none⟩)) :: (.pointer (some ⟨gu,0,none⟩)) :: (.pointer (some ⟨gh,0,none⟩)) :: (.slice A1 n1 c1) :: (.pointer (some ⟨gk,0,none⟩)) :: (.slice A2 n1 c2) :: s29 :: s30 :: s31 :: s32 :: s33 :: s34 :: s35 :: s36 :: s37 :: s38 :: s39 :: s40 :: s41 :: s42 :: s43 :: s44 :: s45 :: s46 :: s47 :: s48 :: s49 :: s50 :: s51 :: s52 :: s53 :: s54 :: s55 :: s56 :: s57 :: s58 :: s59 :: s60 :: s61 :: s62 :: s63 :: s64 :: s65 :: s66 :: s67 :: s68 :: s69 :: s70 :: s71 :: s72 :: s73 :: s74 :: s75 :: s76 :: s77 :: s78 :: s79 :: s80 :: s81 :: s82 :: s83 :: s84 :: s85 :: s86 :: s87 :: s88 :: s89 :: s90 :: s91 :: s92 :: s93 :: s94 :: s95 :: s96 :: s97 :: s98 :: s99 :: s100 :: s101 :: s102 :: s103 :: s104 :: s105 :: s106 :: s107 :: s108 :: s109 :: s110 :: s111 :: s112 :: s113 :: s114 :: s115 :: s116 :: s117 :: s118 :: s119 :: s120 :: s121 :: s122 :: s123 :: s124 :: s125 :: s126 :: s127 :: s128 :: s129 :: s130 :: s131 :: s132 :: s133 :: s134 :: s135 :: s136 :: s137 :: s138 :: s139 :: s140 :: s141 :: s142 :: s143 :: s144 :: s145 :: s146 :: s147 :: s148 :: s149 :: s150 :: s151 :: s152 :: s153 :: s154 :: s155 :: s156 :: s157 :: s158 :: s159 :: s160 :: s161 :: s162 :: s163 :: s164 :: s165 :: s166 :: s167 :: s168 :: s169 :: s170 :: s171 :: s172 :: s173 :: s174 :: s175 :: s176 :: s177 :: s178 :: s179 :: s180 :: s181 :: s182 :: s183 :: s184 :: s185 :: s186 :: s187 :: s188 :: s189 :: s190 :: s191 :: s192 :: s193 :: s194 :: s195 :: s196 :: s197 :: s198 :: (.slice A1 n1 c1) :: (.int .i64 n1) :: (.slice A2 n1 c2) :: (.int .i64 n1) :: (.bool false) :: (.bool false) :: (tmV ph th) :: (tmV pk tk) :: (.bool true) :: (.bool false) :: (.bool false) :: (.bool false) :: (tmV pt tt) :: (tmV pu tu) :: (.bool true) :: (.bool false) :: (.bool false) :: s216 :: s217 :: s218 :: s219 :: s220 :: s221 :: s222 :: s223 :: s224 :: s225 :: s226 :: s227 :: s228 :: s229 :: s230 :: s231 :: s232 :: []:List Value).toArray,defers:=[] } w') :
  (Code.region id tk16_ops.toArray false).wp Try.prog Q { tmps:=(s0 :: s1 :: s2 :: s3 :: s4 :: s5 :: s6 :: s7 :: s8 :: s9 :: s10 :: s11 :: s12 :: s13 :: s14 :: s15 :: s16 :: s17 :: s18 :: s19 :: s20 :: s21 :: s22 :: (.pointer (some ⟨gt,0,none⟩)) :: (.pointer (some ⟨gu,0,none⟩)) :: (.pointer (some ⟨gh,0,none⟩)) :: (.slice A1 n1 c1) :: (.pointer (some ⟨gk,0,none⟩)) :: (.slice A2 n1 c2) :: s29 :: s30 :: s31 :: s32 :: s33 :: s34 :: s35 :: s36 :: s37 :: s38 :: s39 :: s40 :: s41 :: s42 :: s43 :: s44 :: s45 :: s46 :: s47 :: s48 :: s49 :: s50 :: s51 :: s52 :: s53 :: s54 :: s55 :: s56 :: s57 :: s58 :: s59 :: s60 :: s61 :: s62 :: s63 :: s64 :: s65 :: s66 :: s67 :: s68 :: s69 :: s70 :: s71 :: s72 :: s73 :: s74 :: s75 :: s76 :: s77 :: s78 :: s79 :: s80 :: s81 :: s82 :: s83 :: s84 :: s85 :: s86 :: s87 :: s88 :: s89 :: s90 :: s91 :: s92 :: s93 :: s94 :: s95 :: s96 :: s97 :: s98 :: s99 :: s100 :: s101 :: s102 :: s103 :: s104 :: s105 :: s106 :: s107 :: s108 :: s109 :: s110 :: s111 :: s112 :: s113 :: s114 :: s115 :: s116 :: s117 :: s118 :: s119 :: s120 :: s121 :: s122 :: s123 :: s124 :: s125 :: s126 :: s127 :: s128 :: s129 :: s130 :: s131 :: s132 :: s133 :: s134 :: s135 :: s136 :: s137 :: s138 :: s139 :: s140 :: s141 :: s142 :: s143 :: s144 :: s145 :: s146 :: s147 :: s148 :: s149 :: s150 :: s151 :: s152 :: s153 :: s154 :: s155 :: s156 :: s157 :: s158 :: s159 :: s160 :: s161 :: s162 :: s163 :: s164 :: s165 :: s166 :: s167 :: s168 :: s169 :: s170 :: s171 :: s172 :: s173 :: s174 :: s175 :: s176 :: s177 :: s178 :: s179 :: s180 :: s181 :: s182 :: s183 :: s184 :: s185 :: s186 :: s187 :: s188 :: s189 :: s190 :: s191 :: s192 :: s193 :: s194 :: s195 :: s196 :: s197 :: s198 :: s199 :: s200 :: s201 :: s202 :: s203 :: s204 :: s205 :: s206 :: s207 :: s208 :: s209 :: s210 :: s211 :: s212 :: s213 :: s214 :: s215 :: s216 :: s217 :: s218 :: s219 :: s220 :: s221 :: s222 :: s223 :: s224 :: s225 :: s226 :: s227 :: s228 :: s229 :: s230 :: s231 :: s232 :: []:List Value).toArray,defers:=[] } w0:=by
 refine wp_region_est0 (est2 0 0 (fun _=>False) (fun _=>False)) tk16_C (tk16_F w0 B gh ph th gk pk tk gt pt tt gu pu tu A1 A2 n1 c1 c2) (est2_dis (fun _ h _=>h)) (est2_range (fun _ h=>h.elim) (fun _ h=>h.elim)) (by rfl) (by kernel_rfl) (tk16_obs w0 B gh ph th gk pk tk gt pt tt gu pu tu A1 A2 n1 c1 c2 hB hx25 (TmS.same hin25 (fun _ _ _=>rfl)) hx27 (TmS.same hin27 (fun _ _ _=>rfl)) hx23 (TmS.same hin23 (fun _ _ _=>rfl)) hx24 (TmS.same hin24 (fun _ _ _=>rfl)) co1 co2 al1 al2 _ _ rfl rfl rfl rfl rfl rfl) ?_
 intro a w' O hd hs hb hf hf2 ha hsame
 have hl:=slots_eq (ops:=tk16_ops.toArray) [(199,.slice A1 n1 c1),(200,.int .i64 n1),(201,.slice A2 n1 c2),(202,.int .i64 n1),(203,.bool false),(204,.bool false),(205,tmV ph th),(206,tmV pk tk),(207,.bool true),(208,.bool false),(209,.bool false),(210,.bool false),(211,tmV pt tt),(212,tmV pu tu),(213,.bool true),(214,.bool false),(215,.bool false)] (show a.tmps.size=233 from hs) (fun i h=>hsame i h) ⟨(hf 0 _ 199 rfl rfl (by decide)).1,(hf 1 _ 200 rfl rfl (by decide)).1,(hf 2 _ 201 rfl rfl (by decide)).1,(hf 3 _ 202 rfl rfl (by decide)).1,(hf 4 _ 203 rfl rfl (by decide)).1,(hf 5 _ 204 rfl rfl (by decide)).1,(hf 6 _ 205 rfl rfl (by decide)).1,(hf 7 _ 206 rfl rfl (by decide)).1,(hf 8 _ 207 rfl rfl (by decide)).1,(hf 9 _ 208 rfl rfl (by decide)).1,(hf 10 _ 209 rfl rfl (by decide)).1,(hf 11 _ 210 rfl rfl (by decide)).1,(hf 12 _ 211 rfl rfl (by decide)).1,(hf 13 _ 212 rfl rfl (by decide)).1,(hf 14 _ 213 rfl rfl (by decide)).1,(hf 15 _ 214 rfl rfl (by decide)).1,(hf 16 _ 215 rfl rfl (by decide)).1,trivial⟩ (by kernel_rfl)
 obtain ⟨tmps,defers⟩:=a
 obtain rfl:defers=[]:=hd
 have hl':tmps=_:=hl
 rw [hl']
 have hb':=est2_chg hb
 refine Eq.mp ?_ (hend w' ⟨hb'.os,hb'.tape,hb'.output,hb'.size,hb'.block⟩)
 kernel_rfl

def tk21_ops:List Oper:=[
 { dst:=some 221,op:=Go.Op.move (Go.Operand.tmp 26),type:=26,pos:= "law.go:43",after:=#[],guard:=none },
 { dst:=some 222,op:=Go.Op.move (Go.Operand.tmp 29),type:=3,pos:= "law.go:43",after:=#[],guard:=none },
 { dst:=some 223,op:=Go.Op.indexAddr 26 (Go.Operand.tmp 221) (Go.Operand.tmp 222),type:=0,pos:= "law.go:43",after:=#[{ on:=0,ground:=Go.Ground.data },{ on:=1,ground:=Go.Ground.data }],guard:=none },
 { dst:=some 224,op:=Go.Op.load 28 (Go.Operand.tmp 223),type:=28,pos:= "law.go:43",after:=#[{ on:=2,ground:=Go.Ground.data }],guard:=none },
 { dst:=some 225,op:=Go.Op.move (Go.Operand.tmp 28),type:=26,pos:= "law.go:43",after:=#[],guard:=none },
 { dst:=some 226,op:=Go.Op.move (Go.Operand.tmp 29),type:=3,pos:= "law.go:43",after:=#[],guard:=none },
 { dst:=some 227,op:=Go.Op.indexAddr 26 (Go.Operand.tmp 225) (Go.Operand.tmp 226),type:=0,pos:= "law.go:43",after:=#[{ on:=4,ground:=Go.Ground.data },{ on:=5,ground:=Go.Ground.data }],guard:=none },
 { dst:=some 228,op:=Go.Op.load 28 (Go.Operand.tmp 227),type:=28,pos:= "law.go:43",after:=#[{ on:=6,ground:=Go.Ground.data }],guard:=none },
 { dst:=some 229,op:=Go.Op.call { callee:=Go.Callee.value (Go.Operand.func 22),args:=#[Go.Operand.tmp 224,Go.Operand.tmp 228],argTypes:=#[28,28] },type:=4,pos:= "law.go:43",after:=#[{ on:=3,ground:=Go.Ground.data },{ on:=7,ground:=Go.Ground.data }],guard:=none },
 { dst:=some 230,op:=Go.Op.unOp Go.UnOp.not 4 (Go.Operand.tmp 229),type:=4,pos:= "law.go:43",after:=#[{ on:=8,ground:=Go.Ground.data }],guard:=none }]
def tk21_F (w0:World) (B:Nat)  (d1 o1 n1 c1 d2 o2 n2 c2 i:Nat) (q1 q2:Pl) (k1 k2:Tm):Nat→(Nat→Value)→Value→World→(Nat→Prop)→Prop:=fun rix=>match rix with
 | 0=>fun _ v _ _=>v=.slice (some ⟨d1,o1,none⟩) n1 c1
 | 1=>fun _ v _ _=>v=.int .i64 i
 | 2=>fun _ v _ _=>v=.pointer (some ⟨d1,o1+i * 8,none⟩)
 | 3=>fun _ v _ _=>v=tmV q1 k1
 | 4=>fun _ v _ _=>v=.slice (some ⟨d2,o2,none⟩) n2 c2
 | 5=>fun _ v _ _=>v=.int .i64 i
 | 6=>fun _ v _ _=>v=.pointer (some ⟨d2,o2+i * 8,none⟩)
 | 7=>fun _ v _ _=>v=tmV q2 k2
 | 8=>fun _ v _ _=>v=.bool true
 | 9=>fun _ v _ _=>v=.bool false
 | _=>fun _ _ _ _=>True
def tk21_C:Nat→List Nat:=fun rix=>match rix with
 | _=>[]
theorem tk21_nw26:nwB tk21_ops.toArray 26=true:=by kernel_rfl
theorem tk21_nw28:nwB tk21_ops.toArray 28=true:=by kernel_rfl
theorem tk21_nw29:nwB tk21_ops.toArray 29=true:=by kernel_rfl
set_option maxRecDepth 100000 in
set_option maxHeartbeats 8000000 in
theorem tk21_obs (w0:World) (B:Nat)  (d1 o1 n1 c1 d2 o2 n2 c2 i:Nat) (q1 q2:Pl) (k1 k2:Tm) (hB:B≤w0.heap.size)  (hd1:d1<B) (hd2:d2<B) (hi1:i<n1) (hi2:i<n2) (hn1:n1≤1000000) (hn2:n2≤1000000) (c10:w0.cell? ⟨d1,o1+i * 8,none⟩=some (.int .i64 k1.kind)) (c11:w0.cell? ⟨d1,o1+i * 8+1,none⟩=some (.int .i64 k1.num)) (c12:w0.cell? ⟨d1,o1+i * 8+2,none⟩=some (.string k1.name)) (c13:w0.cell? ⟨d1,o1+i * 8+3,none⟩=some (.int .i64 k1.lv.kind)) (c14:w0.cell? ⟨d1,o1+i * 8+4,none⟩=some (.int .i64 k1.lv.num)) (c15:w0.cell? ⟨d1,o1+i * 8+5,none⟩=some (.slice q1.A k1.lv.kids.length q1.c)) (c16:w0.cell? ⟨d1,o1+i * 8+6,none⟩=some (.slice q1.B k1.ls.length q1.d)) (c17:w0.cell? ⟨d1,o1+i * 8+7,none⟩=some (.slice q1.K k1.kids.length q1.e)) (c20:w0.cell? ⟨d2,o2+i * 8,none⟩=some (.int .i64 k2.kind)) (c21:w0.cell? ⟨d2,o2+i * 8+1,none⟩=some (.int .i64 k2.num)) (c22:w0.cell? ⟨d2,o2+i * 8+2,none⟩=some (.string k2.name)) (c23:w0.cell? ⟨d2,o2+i * 8+3,none⟩=some (.int .i64 k2.lv.kind)) (c24:w0.cell? ⟨d2,o2+i * 8+4,none⟩=some (.int .i64 k2.lv.num)) (c25:w0.cell? ⟨d2,o2+i * 8+5,none⟩=some (.slice q2.A k2.lv.kids.length q2.c)) (c26:w0.cell? ⟨d2,o2+i * 8+6,none⟩=some (.slice q2.B k2.ls.length q2.d)) (c27:w0.cell? ⟨d2,o2+i * 8+7,none⟩=some (.slice q2.K k2.kids.length q2.e)) (hk1:TmIn w0 B q1 k1) (hk2:TmIn w0 B q2 k2) (co:okT k1→okT k2→CmpOk k1 k2) (al:alikeT k1 k2=true) (Q:Exit→Act→World→Prop) (a0:Act) (hi26:a0.tmps.getD 26 undef=.slice (some ⟨d1,o1,none⟩) n1 c1) (hi28:a0.tmps.getD 28 undef=.slice (some ⟨d2,o2,none⟩) n2 c2) (hi29:a0.tmps.getD 29 undef=.int .i64 i) :
  ObsE Try.prog tk21_ops.toArray Q (est2 0 0 (fun _=>False) (fun _=>False)) tk21_C (tk21_F w0 B  d1 o1 n1 c1 d2 o2 n2 c2 i q1 q2 k1 k2) a0 w0 tk21_ops.toArray.toList 0:=by
 have nw26:=tk21_nw26
 have nw28:=tk21_nw28
 have nw29:=tk21_nw29
 refine ⟨?_,?_,?_,?_,?_,?_,?_,?_,?_,?_,trivial⟩
 ·refine ⟨⟨fun τ=>stableE_det _,leans_not⟩,?_⟩
  intro a w O hk
  have e26:a.eval (.tmp 26)=.slice (some ⟨d1,o1,none⟩) n1 c1:=(hk.init 26 (initialB_of_nw nw26)).trans hi26
  exact toE (ob_move rfl e26 (wanted_none rfl) rfl)
 ·refine ⟨⟨fun τ=>stableE_det _,leans_not⟩,?_⟩
  intro a w O hk
  have e29:a.eval (.tmp 29)=.int .i64 i:=(hk.init 29 (initialB_of_nw nw29)).trans hi29
  exact toE (ob_move rfl e29 (wanted_none rfl) rfl)
 ·refine ⟨⟨fun τ=>stableE_det _,leans_not⟩,?_⟩
  intro a w O hk
  have e221:a.eval (.tmp 221)=.slice (some ⟨d1,o1,none⟩) n1 c1:=hk.fact 0 _ 221 rfl rfl rfl rfl
  have e222:a.eval (.tmp 222)=.int .i64 i:=hk.fact 1 _ 222 rfl rfl rfl rfl
  have hfx:∀ k,k<B→w.heap[k]?=w0.heap[k]?:=fun k hk'=>hk.fix k ((fun k hk'=>est2_fix (Nat.lt_of_lt_of_le hk' hB) (fun e=>e.elim) (fun e=>e.elim)) k hk')
  have hsz:=hk.world.size
  have hcd1:∀ j,w.cell? ⟨d1,j,none⟩=w0.cell? ⟨d1,j,none⟩:=fun j=>cell_same (hfx _ hd1)
  have hcd2:∀ j,w.cell? ⟨d2,j,none⟩=w0.cell? ⟨d2,j,none⟩:=fun j=>cell_same (hfx _ hd2)
  exact obE_run (wanted_none rfl) (by unfold execOp;simp only [];rw [e221,e222];go_simp) rfl
 ·refine ⟨⟨fun τ=>stableE_det _,leans_not⟩,?_⟩
  intro a w O hk
  have e223:a.eval (.tmp 223)=.pointer (some ⟨d1,o1+i * 8,none⟩):=hk.fact 2 _ 223 rfl rfl rfl rfl
  have hfx:∀ k,k<B→w.heap[k]?=w0.heap[k]?:=fun k hk'=>hk.fix k ((fun k hk'=>est2_fix (Nat.lt_of_lt_of_le hk' hB) (fun e=>e.elim) (fun e=>e.elim)) k hk')
  have hsz:=hk.world.size
  have hcd1:∀ j,w.cell? ⟨d1,j,none⟩=w0.cell? ⟨d1,j,none⟩:=fun j=>cell_same (hfx _ hd1)
  have hcd2:∀ j,w.cell? ⟨d2,j,none⟩=w0.cell? ⟨d2,j,none⟩:=fun j=>cell_same (hfx _ hd2)
  have r0:=(hcd1 _).trans c10
  have r1:=(hcd1 _).trans c11
  have r2:=(hcd1 _).trans c12
  have r3:=(hcd1 _).trans c13
  have r4:=(hcd1 _).trans c14
  have r5:=(hcd1 _).trans c15
  have r6:=(hcd1 _).trans c16
  have r7:=(hcd1 _).trans c17
  exact obE_run (wanted_none rfl) (by unfold execOp;simp only [];rw [e223];go_simp;rfl) rfl
 ·refine ⟨⟨fun τ=>stableE_det _,leans_not⟩,?_⟩
  intro a w O hk
  have e28:a.eval (.tmp 28)=.slice (some ⟨d2,o2,none⟩) n2 c2:=(hk.init 28 (initialB_of_nw nw28)).trans hi28
  exact toE (ob_move rfl e28 (wanted_none rfl) rfl)
 ·refine ⟨⟨fun τ=>stableE_det _,leans_not⟩,?_⟩
  intro a w O hk
  have e29:a.eval (.tmp 29)=.int .i64 i:=(hk.init 29 (initialB_of_nw nw29)).trans hi29
  exact toE (ob_move rfl e29 (wanted_none rfl) rfl)
 ·refine ⟨⟨fun τ=>stableE_det _,leans_not⟩,?_⟩
  intro a w O hk
  have e225:a.eval (.tmp 225)=.slice (some ⟨d2,o2,none⟩) n2 c2:=hk.fact 4 _ 225 rfl rfl rfl rfl
  have e226:a.eval (.tmp 226)=.int .i64 i:=hk.fact 5 _ 226 rfl rfl rfl rfl
  have hfx:∀ k,k<B→w.heap[k]?=w0.heap[k]?:=fun k hk'=>hk.fix k ((fun k hk'=>est2_fix (Nat.lt_of_lt_of_le hk' hB) (fun e=>e.elim) (fun e=>e.elim)) k hk')
  have hsz:=hk.world.size
  have hcd1:∀ j,w.cell? ⟨d1,j,none⟩=w0.cell? ⟨d1,j,none⟩:=fun j=>cell_same (hfx _ hd1)
  have hcd2:∀ j,w.cell? ⟨d2,j,none⟩=w0.cell? ⟨d2,j,none⟩:=fun j=>cell_same (hfx _ hd2)
  exact obE_run (wanted_none rfl) (by unfold execOp;simp only [];rw [e225,e226];go_simp) rfl
 ·refine ⟨⟨fun τ=>stableE_det _,leans_not⟩,?_⟩
  intro a w O hk
  have e227:a.eval (.tmp 227)=.pointer (some ⟨d2,o2+i * 8,none⟩):=hk.fact 6 _ 227 rfl rfl rfl rfl
  have hfx:∀ k,k<B→w.heap[k]?=w0.heap[k]?:=fun k hk'=>hk.fix k ((fun k hk'=>est2_fix (Nat.lt_of_lt_of_le hk' hB) (fun e=>e.elim) (fun e=>e.elim)) k hk')
  have hsz:=hk.world.size
  have hcd1:∀ j,w.cell? ⟨d1,j,none⟩=w0.cell? ⟨d1,j,none⟩:=fun j=>cell_same (hfx _ hd1)
  have hcd2:∀ j,w.cell? ⟨d2,j,none⟩=w0.cell? ⟨d2,j,none⟩:=fun j=>cell_same (hfx _ hd2)
  have r0:=(hcd2 _).trans c20
  have r1:=(hcd2 _).trans c21
  have r2:=(hcd2 _).trans c22
  have r3:=(hcd2 _).trans c23
  have r4:=(hcd2 _).trans c24
  have r5:=(hcd2 _).trans c25
  have r6:=(hcd2 _).trans c26
  have r7:=(hcd2 _).trans c27
  exact obE_run (wanted_none rfl) (by unfold execOp;simp only [];rw [e227];go_simp;rfl) rfl
 ·refine ⟨⟨fun τ=>stableE_det _,leans_not⟩,?_⟩
  intro a w O hk
  have e224:a.eval (.tmp 224)=tmV q1 k1:=hk.fact 3 _ 224 rfl rfl rfl rfl
  have e228:a.eval (.tmp 228)=tmV q2 k2:=hk.fact 7 _ 228 rfl rfl rfl rfl
  have hfx:∀ k,k<B→w.heap[k]?=w0.heap[k]?:=fun k hk'=>hk.fix k ((fun k hk'=>est2_fix (Nat.lt_of_lt_of_le hk' hB) (fun e=>e.elim) (fun e=>e.elim)) k hk')
  have hsz:=hk.world.size
  have hcd1:∀ j,w.cell? ⟨d1,j,none⟩=w0.cell? ⟨d1,j,none⟩:=fun j=>cell_same (hfx _ hd1)
  have hcd2:∀ j,w.cell? ⟨d2,j,none⟩=w0.cell? ⟨d2,j,none⟩:=fun j=>cell_same (hfx _ hd2)
  exact obE_callV #[tmV q1 k1,tmV q2 k2] rfl rfl rfl rfl (by simp only [List.map_cons,List.map_nil];rw [e224,e228];try rfl) (wanted_none rfl) ((alike_calls k1 k2 q1 q2 w co (TmIn.mono (hk1.same (w':=w) (fun k hk' _=>hfx k hk')) (Nat.le_trans hB hsz)) (TmIn.mono (hk2.same (w':=w) (fun k hk' _=>hfx k hk')) (Nat.le_trans hB hsz))).mono fun e w' h=>⟨by rw [h.1,al],h.2⟩)
 ·refine ⟨⟨fun τ=>stableE_det _,leans_not⟩,?_⟩
  intro a w O hk
  have e229:a.eval (.tmp 229)=.bool true:=hk.fact 8 _ 229 rfl rfl rfl rfl
  have hfx:∀ k,k<B→w.heap[k]?=w0.heap[k]?:=fun k hk'=>hk.fix k ((fun k hk'=>est2_fix (Nat.lt_of_lt_of_le hk' hB) (fun e=>e.elim) (fun e=>e.elim)) k hk')
  have hsz:=hk.world.size
  have hcd1:∀ j,w.cell? ⟨d1,j,none⟩=w0.cell? ⟨d1,j,none⟩:=fun j=>cell_same (hfx _ hd1)
  have hcd2:∀ j,w.cell? ⟨d2,j,none⟩=w0.cell? ⟨d2,j,none⟩:=fun j=>cell_same (hfx _ hd2)
  exact obE_run (wanted_none rfl) (by unfold execOp;simp only [];rw [e229];go_simp) rfl
set_option maxRecDepth 100000 in
set_option maxHeartbeats 8000000 in
theorem tk21_region {Q:Exit→Act→World→Prop} {id:Nat} (w0:World) (B:Nat)  (d1 o1 n1 c1 d2 o2 n2 c2 i:Nat) (q1 q2:Pl) (k1 k2:Tm) {s0 s1 s2 s3 s4 s5 s6 s7 s8 s9 s10 s11 s12 s13 s14 s15 s16 s17 s18 s19 s20 s21 s22 s23 s24 s25 s27 s30 s31 s32 s33 s34 s35 s36 s37 s38 s39 s40 s41 s42 s43 s44 s45 s46 s47 s48 s49 s50 s51 s52 s53 s54 s55 s56 s57 s58 s59 s60 s61 s62 s63 s64 s65 s66 s67 s68 s69 s70 s71 s72 s73 s74 s75 s76 s77 s78 s79 s80 s81 s82 s83 s84 s85 s86 s87 s88 s89 s90 s91 s92 s93 s94 s95 s96 s97 s98 s99 s100 s101 s102 s103 s104 s105 s106 s107 s108 s109 s110 s111 s112 s113 s114 s115 s116 s117 s118 s119 s120 s121 s122 s123 s124 s125 s126 s127 s128 s129 s130 s131 s132 s133 s134 s135 s136 s137 s138 s139 s140 s141 s142 s143 s144 s145 s146 s147 s148 s149 s150 s151 s152 s153 s154 s155 s156 s157 s158 s159 s160 s161 s162 s163 s164 s165 s166 s167 s168 s169 s170 s171 s172 s173 s174 s175 s176 s177 s178 s179 s180 s181 s182 s183 s184 s185 s186 s187 s188 s189 s190 s191 s192 s193 s194 s195 s196 s197 s198 s199 s200 s201 s202 s203 s204 s205 s206 s207 s208 s209 s210 s211 s212 s213 s214 s215 s216 s217 s218 s219 s220 s221 s222 s223 s224 s225 s226 s227 s228 s229 s230 s231 s232:Value} (hB:B≤w0.heap.size)  (hd1:d1<B) (hd2:d2<B) (hi1:i<n1) (hi2:i<n2) (hn1:n1≤1000000) (hn2:n2≤1000000) (c10:w0.cell? ⟨d1,o1+i * 8,none⟩=some (.int .i64 k1.kind)) (c11:w0.cell? ⟨d1,o1+i * 8+1,none⟩=some (.int .i64 k1.num)) (c12:w0.cell? ⟨d1,o1+i * 8+2,none⟩=some (.string k1.name)) (c13:w0.cell? ⟨d1,o1+i * 8+3,none⟩=some (.int .i64 k1.lv.kind)) (c14:w0.cell? ⟨d1,o1+i * 8+4,none⟩=some (.int .i64 k1.lv.num)) (c15:w0.cell? ⟨d1,o1+i * 8+5,none⟩=some (.slice q1.A k1.lv.kids.length q1.c)) (c16:w0.cell? ⟨d1,o1+i * 8+6,none⟩=some (.slice q1.B k1.ls.length q1.d)) (c17:w0.cell? ⟨d1,o1+i * 8+7,none⟩=some (.slice q1.K k1.kids.length q1.e)) (c20:w0.cell? ⟨d2,o2+i * 8,none⟩=some (.int .i64 k2.kind)) (c21:w0.cell? ⟨d2,o2+i * 8+1,none⟩=some (.int .i64 k2.num)) (c22:w0.cell? ⟨d2,o2+i * 8+2,none⟩=some (.string k2.name)) (c23:w0.cell? ⟨d2,o2+i * 8+3,none⟩=some (.int .i64 k2.lv.kind)) (c24:w0.cell? ⟨d2,o2+i * 8+4,none⟩=some (.int .i64 k2.lv.num)) (c25:w0.cell? ⟨d2,o2+i * 8+5,none⟩=some (.slice q2.A k2.lv.kids.length q2.c)) (c26:w0.cell? ⟨d2,o2+i * 8+6,none⟩=some (.slice q2.B k2.ls.length q2.d)) (c27:w0.cell? ⟨d2,o2+i * 8+7,none⟩=some (.slice q2.K k2.kids.length q2.e)) (hk1:TmIn w0 B q1 k1) (hk2:TmIn w0 B q2 k2) (co:okT k1→okT k2→CmpOk k1 k2) (al:alikeT k1 k2=true)
  (hend:∀ (w':World),Chg (fun k=>False∨False) w0 w'→Q .normal { tmps:=(s0 :: s1 :: s2 :: s3 :: s4 :: s5 :: s6 :: s7 :: s8 :: s9 :: s10 :: s11 :: s12 :: s13 :: s14 :: s15 :: s16 :: s17 :: s18 :: s19 :: s20 :: s21 :: s22 :: s23 :: s24 :: s25 :: (.slice (some ⟨d1,o1,none⟩) n1 c1) :: s27 :: (.slice (some ⟨d2,o2,none⟩) n2 c2) :: (.int .i64 i) :: s30 :: s31 :: s32 :: s33 :: s34 :: s35 :: s36 :: s37 :: s38 :: s39 :: s40 :: s41 :: s42 :: s43 :: s44 :: s45 :: s46 :: s47 :: s48 :: s49 :: s50 :: s51 :: s52 :: s53 :: s54 :: s55 :: s56 :: s57 :: s58 :: s59 :: s60 :: s61 :: s62 :: s63 :: s64 :: s65 :: s66 :: s67 :: s68 :: s69 :: s70 :: s71 :: s72 :: s73 :: s74 :: s75 :: s76 :: s77 :: s78 :: s79 :: s80 :: s81 :: s82 :: s83 :: s84 :: s85 :: s86 :: s87 :: s88 :: s89 :: s90 :: s91 :: s92 :: s93 :: s94 :: s95 :: s96 :: s97 :: s98 :: s99 :: s100 :: s101 :: s102 :: s103 :: s104 :: s105 :: s106 :: s107 :: s108 :: s109 :: s110 :: s111 :: s112 :: s113 :: s114 :: s115 :: s116 :: s117 :: s118 :: s119 :: s120 :: s121 :: s122 :: s123 :: s124 :: s125 :: s126 :: s127 :: s128 :: s129 :: s130 :: s131 :: s132 :: s133 :: s134 :: s135 :: s136 :: s137 :: s138 :: s139 :: s140 :: s141 :: s142 :: s143 :: s144 :: s145 :: s146 :: s147 :: s148 :: s149 :: s150 :: s151 :: s152 :: s153 :: s154 :: s155 :: s156 :: s157 :: s158 :: s159 :: s160 :: s161 :: s162 :: s163 :: s164 :: s165 :: s166 :: s167 :: s168 :: s169 :: s170 :: s171 :: s172 :: s173 :: s174 :: s175 :: s176 :: s177 :: s178 :: s179 :: s180 :: s181 :: s182 :: s183 :: s184 :: s185 :: s186 :: s187 :: s188 :: s189 :: s190 :: s191 :: s192 :: s193 :: s194 :: s195 :: s196 :: s197 :: s198 :: s199 :: s200 :: s201 :: s202 :: s203 :: s204 :: s205 :: s206 :: s207 :: s208 :: s209 :: s210 :: s211 :: s212 :: s213 :: s214 :: s215 :: s216 :: s217 :: s218 :: s219 :: s220 :: (.slice (some ⟨d1,o1,none⟩) n1 c1) :: (.int .i64 i) :: (.pointer (some ⟨d1,o1+i * 8,none⟩)) :: (tmV q1 k1) :: (.slice (some ⟨d2,o2,none⟩) n2 c2) :: (.int .i64 i) :: (.pointer (some ⟨d2,o2+i * 8,none⟩)) :: (tmV q2 k2) :: (.bool true) :: (.bool false) :: s231 :: s232 :: []:List Value).toArray,defers:=[] } w') :
  (Code.region id tk21_ops.toArray true).wp Try.prog Q { tmps:=(s0 :: s1 :: s2 :: s3 :: s4 :: s5 :: s6 :: s7 :: s8 :: s9 :: s10 :: s11 :: s12 :: s13 :: s14 :: s15 :: s16 :: s17 :: s18 :: s19 :: s20 :: s21 :: s22 :: s23 :: s24 :: s25 :: (.slice (some ⟨d1,o1,none⟩) n1 c1) :: s27 :: (.slice (some ⟨d2,o2,none⟩) n2 c2) :: (.int .i64 i) :: s30 :: s31 :: s32 :: s33 :: s34 :: s35 :: s36 :: s37 :: s38 :: s39 :: s40 :: s41 :: s42 :: s43 :: s44 :: s45 :: s46 :: s47 :: s48 :: s49 :: s50 :: s51 :: s52 :: s53 :: s54 :: s55 :: s56 :: s57 :: s58 :: s59 :: s60 :: s61 :: s62 :: s63 :: s64 :: s65 :: s66 :: s67 :: s68 :: s69 :: s70 :: s71 :: s72 :: s73 :: s74 :: s75 :: s76 :: s77 :: s78 :: s79 :: s80 :: s81 :: s82 :: s83 :: s84 :: s85 :: s86 :: s87 :: s88 :: s89 :: s90 :: s91 :: s92 :: s93 :: s94 :: s95 :: s96 :: s97 :: s98 :: s99 :: s100 :: s101 :: s102 :: s103 :: s104 :: s105 :: s106 :: s107 :: s108 :: s109 :: s110 :: s111 :: s112 :: s113 :: s114 :: s115 :: s116 :: s117 :: s118 :: s119 :: s120 :: s121 :: s122 :: s123 :: s124 :: s125 :: s126 :: s127 :: s128 :: s129 :: s130 :: s131 :: s132 :: s133 :: s134 :: s135 :: s136 :: s137 :: s138 :: s139 :: s140 :: s141 :: s142 :: s143 :: s144 :: s145 :: s146 :: s147 :: s148 :: s149 :: s150 :: s151 :: s152 :: s153 :: s154 :: s155 :: s156 :: s157 :: s158 :: s159 :: s160 :: s161 :: s162 :: s163 :: s164 :: s165 :: s166 :: s167 :: s168 :: s169 :: s170 :: s171 :: s172 :: s173 :: s174 :: s175 :: s176 :: s177 :: s178 :: s179 :: s180 :: s181 :: s182 :: s183 :: s184 :: s185 :: s186 :: s187 :: s188 :: s189 :: s190 :: s191 :: s192 :: s193 :: s194 :: s195 :: s196 :: s197 :: s198 :: s199 :: s200 :: s201 :: s202 :: s203 :: s204 :: s205 :: s206 :: s207 :: s208 :: s209 :: s210 :: s211 :: s212 :: s213 :: s214 :: s215 :: s216 :: s217 :: s218 :: s219 :: s220 :: s221 :: s222 :: s223 :: s224 :: s225 :: s226 :: s227 :: s228 :: s229 :: s230 :: s231 :: s232 :: []:List Value).toArray,defers:=[] } w0:=by
 refine wp_region_est (by kernel_rfl) (est2 0 0 (fun _=>False) (fun _=>False)) tk21_C (tk21_F w0 B  d1 o1 n1 c1 d2 o2 n2 c2 i q1 q2 k1 k2) (est2_dis (fun _ h _=>h)) (est2_range (fun _ h=>h.elim) (fun _ h=>h.elim)) (by rfl) (by kernel_rfl) (tk21_obs w0.drew B  d1 o1 n1 c1 d2 o2 n2 c2 i q1 q2 k1 k2 hB  hd1 hd2 hi1 hi2 hn1 hn2 c10 c11 c12 c13 c14 c15 c16 c17 c20 c21 c22 c23 c24 c25 c26 c27 (TmS.same hk1 (fun _ _ _=>rfl)) (TmS.same hk2 (fun _ _ _=>rfl)) co al _ _ rfl rfl rfl) ?_
 intro a w' O hd hs hb hf hf2 ha hsame
 have hl:=slots_eq (ops:=tk21_ops.toArray) [(221,.slice (some ⟨d1,o1,none⟩) n1 c1),(222,.int .i64 i),(223,.pointer (some ⟨d1,o1+i * 8,none⟩)),(224,tmV q1 k1),(225,.slice (some ⟨d2,o2,none⟩) n2 c2),(226,.int .i64 i),(227,.pointer (some ⟨d2,o2+i * 8,none⟩)),(228,tmV q2 k2),(229,.bool true),(230,.bool false)] (show a.tmps.size=233 from hs) (fun i h=>hsame i h) ⟨(hf 0 _ 221 rfl rfl (by decide)).1,(hf 1 _ 222 rfl rfl (by decide)).1,(hf 2 _ 223 rfl rfl (by decide)).1,(hf 3 _ 224 rfl rfl (by decide)).1,(hf 4 _ 225 rfl rfl (by decide)).1,(hf 5 _ 226 rfl rfl (by decide)).1,(hf 6 _ 227 rfl rfl (by decide)).1,(hf 7 _ 228 rfl rfl (by decide)).1,(hf 8 _ 229 rfl rfl (by decide)).1,(hf 9 _ 230 rfl rfl (by decide)).1,trivial⟩ (by kernel_rfl)
 obtain ⟨tmps,defers⟩:=a
 obtain rfl:defers=[]:=hd
 have hl':tmps=_:=hl
 rw [hl']
 have hb':=est2_chg hb
 refine Eq.mp ?_ (hend w' ⟨hb'.os,hb'.tape,hb'.output,hb'.size,hb'.block⟩)
 kernel_rfl

end Go.Proofs.Ytdboloabpjmgaaa

namespace Go.Proofs.Ytdboloabpjmgaaa
open Go.RowKit Go.Proofs.YtdboloabpjmgaaaW.PrintWords Go.RegionInvYtdboloabpjmgaaa Go.RegionEYtdboloabpjmgaaa

theorem sp_len (N:Nat):∀ (t:Tm),SizeOf.sizeOf t<N→(spA t).length+1≤depthT t:=by
 induction N with
 | zero=>intro t h;omega
 | succ N ih =>
  intro t hN
  by_cases h:t.kind=6∧nK t≠0
  ·obtain ⟨-,z0,d0,-⟩:=app_kid h (i:=0) (by decide)
   have:=ih (kidD t 0) (by omega)
   rw [spA_app h]
   simp
   omega
  ·rw [spA_end h]
   have:=depth_pos t
   simp
   omega
structure MkB (w W:World) (A:Option Addr) (cA:Nat) (l:Lv) (pa pb pc:Pl) (a b c:Tm):Prop where
 b0:W.heap[w.heap.size]?=some (.cells #[.int .i64 l.kind,.int .i64 l.num,.slice A l.kids.length cA] 25 (0,0))
 b1:W.heap[w.heap.size+1]?=some (tmO pa a)
 b2:W.heap[w.heap.size+1+1]?=some (tmO pb b)
 b3:W.heap[w.heap.size+1+1+1]?=some (tmO pc c)
 bel:Below w.heap.size w W
 i1:TmIn W w.heap.size pa a
 i2:TmIn W w.heap.size pb b
 i3:TmIn W w.heap.size pc c
theorem MkB.later {w W W':World} {A:Option Addr} {cA:Nat} {l:Lv} {pa pb pc:Pl} {a b c:Tm} (h:MkB w W A cA l pa pb pc a b c) (hb:Below W.heap.size W W'):MkB w W' A cA l pa pb pc a b c:=
 ⟨(hb.block _ (blk_lt h.b0)).trans h.b0,(hb.block _ (blk_lt h.b1)).trans h.b1,(hb.block _ (blk_lt h.b2)).trans h.b2,(hb.block _ (blk_lt h.b3)).trans h.b3,below_then h.bel h.bel.size hb,h.i1.stay (hb.mono h.bel.size),h.i2.stay (hb.mono h.bel.size),h.i3.stay (hb.mono h.bel.size)⟩
theorem consT_eq (nm:ByteArray) (ls:List Lv):consT nm ls=.mk 7 0 nm lv0 (ls.map owP) []:=rfl
structure InBox (w:World) (p:Nat) (q:Pl) (t:Tm):Prop where
 box:w.heap[p]?=some (tmO q t)
 tm:TmIn w w.heap.size q t
theorem InBox.later {w W:World} {p:Nat} {q:Pl} {t:Tm} (h:InBox w p q t) (hb:Below w.heap.size w W):InBox W p q t:=
 ⟨(hb.block _ (blk_lt h.box)).trans h.box,TmS.all (h.tm.stay hb)⟩
theorem TmBox.inb {w:World} {p:Nat} {T:Nat→Prop} {t:Tm} {O:Nat→Prop} (h:TmBox p T t w O):∃ q,InBox w p q t:=by
 obtain ⟨q,h1,_,h3⟩:=h
 exact ⟨q,h1,TmS.all h3⟩
structure KidIn (w:World) (q:Pl) (i d o:Nat) (k:Pl) (x:Tm):Prop where
 K:q.K=some ⟨d,o,none⟩
 lt:d<w.heap.size
 cells:∀ (j:Nat) (v:Value),(tmC k x)[j]?=some v→w.cell? ⟨d,o+i * 8+j,none⟩=some v
 tm:TmIn w w.heap.size k x
theorem InBox.kid {w:World} {p:Nat} {q:Pl} {t x:Tm} (h:InBox w p q t) {i:Nat} (hx:t.kids[i]?=some x):∃ d o k,KidIn w q i d o k x:=by
 obtain ⟨qq,hq⟩:=h.tm.kid
 obtain ⟨⟨d,o,hK,hd,hc⟩,ht⟩:=hq i x hx
 exact ⟨d,o,_,hK,hd,hc,ht⟩
theorem KidIn.cell0 {w:World} {q:Pl} {d o:Nat} {k:Pl} {x:Tm} (h:KidIn w q 0 d o k x) (j:Nat) (v:Value) (hv:(tmC k x)[j]?=some v):w.cell? ⟨d,o+j,none⟩=some v:=by
 have:=h.cells j v hv
 rwa [Nat.zero_mul,Nat.add_zero] at this
theorem KidIn.same {w:World} {q:Pl} {i i' d o d' o':Nat} {k k':Pl} {x x':Tm} (h:KidIn w q i d o k x) (h2:KidIn w q i' d' o' k' x'):KidIn w q i' d o k' x':=by
 have:=h.K.symm.trans h2.K
 simp only [Option.some.injEq,Addr.mk.injEq,and_true] at this
 obtain ⟨rfl,rfl⟩:=this
 exact h2
theorem makes_kids (W:World) (a b c:Tm) (pp pm pe:Nat) (qp qm qe:Pl) (hp:InBox W pp qp (madeT 3 [a,b])) (hm:InBox W pm qm (madeT 4 [a,b])) (he:InBox W pe qe (madeT 5 [a,b,c])) :
  ∃ dp op dm om de oe q1 q2 q3 q4,KidIn W qp 1 dp op q1 (ownT b)∧KidIn W qm 0 dm om q2 (ownT a)∧KidIn W qe 1 de oe q3 (ownT b)∧KidIn W qe 2 de oe q4 (ownT c):=by
 obtain ⟨dp,op,q1,h1⟩:=hp.kid (i:=1) (x:=ownT b) rfl
 obtain ⟨dm,om,q2,h2⟩:=hm.kid (i:=0) (x:=ownT a) rfl
 obtain ⟨de,oe,q3,h3⟩:=he.kid (i:=1) (x:=ownT b) rfl
 obtain ⟨de',oe',q4,h4⟩:=he.kid (i:=2) (x:=ownT c) rfl
 exact ⟨dp,op,dm,om,de,oe,q1,q2,q3,q4,h1,h2,h3,h3.same h4⟩
set_option maxRecDepth 100000 in
set_option maxHeartbeats 16000000 in
theorem termMakes_calls (n:Int) (A:Option Addr) (cA:Nat) (l:Lv) (pa pb pc:Pl) (a b c:Tm) (nm:ByteArray) (Bv:Option Addr) (nb cb:Nat) (ls:List Lv) (Lx:Option Addr) (nx cx:Nat) (qx:Nat→Pl) (xs:List Tm) (w:World)
  (hnn:-9223372036854775808≤n∧n≤9223372036854775807) (hl:LvIn w w.heap.size A cA l) (ha:TmIn w w.heap.size pa a) (hb:TmIn w w.heap.size pb b) (hc:TmIn w w.heap.size pc c) (hnm:nm.size≤140737488355328) (hls:LvIn w w.heap.size Bv cb (.mk 0 0 ls)) (hnb:nb=ls.length) (h40:ls.length * 40≤140737488355328)
  (hxs:TmsS w (fun k=>k<w.heap.size) Lx qx xs) (hnx:nx=xs.length) (hml:LvM mostRow l) (hma:TmM a) (hmb:TmM b) (hmc:TmM c) (hmx:∀ x∈xs,TmM x) :
  Calls Try.prog 4 #[.int .i64 n,lvV A cA l,tmV pa a,tmV pb b,tmV pc c,.string nm,.slice Bv nb cb,.slice Lx nx cx] w fun e w'=>e=.returned (.bool true)∧Below w.heap.size w w':=by
 obtain ⟨W,hW⟩:∃ W,W=(((w.alloc (.cells #[.int .i64 l.kind,.int .i64 l.num,.slice A l.kids.length cA] 25 (0,0))).alloc (tmO pa a)).alloc (tmO pb b)).alloc (tmO pc c):=⟨_,rfl⟩
 have hbw:Below w.heap.size w W:=by rw [hW];exact below_alloc (below_alloc (below_alloc (below_alloc (Below.refl _ _) _) _) _) _
 have hv0:W.heap[w.heap.size]?=some (.cells #[.int .i64 l.kind,.int .i64 l.num,.slice A l.kids.length cA] 25 (0,0)):=by rw [hW];exact blk_alloc (blk_alloc (box0 w _ _) _) _
 have hv1:W.heap[w.heap.size+1]?=some (tmO pa a):=by rw [hW];exact blk_alloc (blk_alloc (box1 w _ _) _) _
 have hv2:W.heap[w.heap.size+1+1]?=some (tmO pb b):=by
  rw [hW]
  have:=blk_new ((w.alloc (.cells #[.int .i64 l.kind,.int .i64 l.num,.slice A l.kids.length cA] 25 (0,0))).alloc (tmO pa a)) (tmO pb b)
  simp only [World.size_alloc] at this
  exact blk_alloc this _
 have hv3:W.heap[w.heap.size+1+1+1]?=some (tmO pc c):=by
  rw [hW]
  have:=blk_new (((w.alloc (.cells #[.int .i64 l.kind,.int .i64 l.num,.slice A l.kids.length cA] 25 (0,0))).alloc (tmO pa a)).alloc (tmO pb b)) (tmO pc c)
  simp only [World.size_alloc] at this
  exact this
 have H0:=Ak (show MkB w W A cA l pa pb pc a b c from ⟨hv0,hv1,hv2,hv3,hbw,ha.stay hbw,hb.stay hbw,hc.stay hbw⟩)
 have HL:=Ak hl
 have HLS:=Ak hls
 have HXS:=Ak hxs
 have HNX:=Ak hnx
 have HNB:=Ak hnb
 have H40:=Ak h40
 have HMA:=Ak hma
 have HMB:=Ak hmb
 have HMC:=Ak hmc
 have HMX:=Ak hmx
 have HML:=Ak hml
 have HNM:=Ak hnm
 have HNN:=Ak hnn
 clear ha hb hc hbw hv0 hv1 hv2 hv3 hl hls hxs hnx hnb h40 hma hmb hmc hmx hml hnm hnn
 unfold tmV lvV
 unfold tmO at hW
 go_enter Try.func4,Try.ntmps4
 go_upto_region 1 with (fail)
 rw [← hW]
 clear hW
 obtain ⟨c0,c1,c2,c3,c4,c5,c6,c7⟩:=row8 H0.out.b1
 by_cases ka:okT a
 ·have HKA:=Ak ka
  have HGA:=Ak (show (!decide (okT a))=false by simp [ka])
  clear ka
  by_cases kb:okT b
  ·have HKB:=Ak kb
   have HGB:=Ak (show (!decide (okT b))=false by simp [kb])
   clear kb
   by_cases kc:okT c
   ·have HKC:=Ak kc
    have HGC:=Ak (show (!decide (okT c))=false by simp [kc])
    clear kc
    by_cases k50:(50:Int)<(nb:Int)
    ·go_upto_if 44 with (first
      | (go_at_call 26;refine (tooGreat_calls a pa W (H0.out.i1.mono H0.out.bel.size)).mono ?_;rintro e w1 ⟨rfl,hb⟩;rw [HGA.out];have H1:=Ak (H0.out.later hb);clear hb;clear c0 c1 c2 c3 c4 c5 c6 c7;obtain ⟨c0,c1,c2,c3,c4,c5,c6,c7⟩:=row8 H1.out.b2)
      | (go_at_call 26;refine (tooGreat_calls b pb w1 (H1.out.i2.mono H1.out.bel.size)).mono ?_;rintro e w2 ⟨rfl,hb⟩;rw [HGB.out];have H2:=Ak (H1.out.later hb);clear hb;clear c0 c1 c2 c3 c4 c5 c6 c7;obtain ⟨c0,c1,c2,c3,c4,c5,c6,c7⟩:=row8 H2.out.b3)
      | (go_at_call 26;refine (tooGreat_calls c pc w2 (H2.out.i3.mono H2.out.bel.size)).mono ?_;rintro e w3 ⟨rfl,hb⟩;rw [HGC.out];have H3:=Ak (H2.out.later hb);clear hb;clear c0 c1 c2 c3 c4 c5 c6 c7))
     go_wp2_with (go_at_call 25;go_must (refine (awake_calls w3).mono ?_;rintro e w9 ⟨rfl,hb⟩;have H9:=Ak (H3.out.later hb);clear hb))
     go_ret
     exact ⟨rfl,H9.out.bel⟩
    ·go_upto_if 44 with (first
      | (go_at_call 26;refine (tooGreat_calls a pa W (H0.out.i1.mono H0.out.bel.size)).mono ?_;rintro e w1 ⟨rfl,hb⟩;rw [HGA.out];have H1:=Ak (H0.out.later hb);clear hb;clear c0 c1 c2 c3 c4 c5 c6 c7;obtain ⟨c0,c1,c2,c3,c4,c5,c6,c7⟩:=row8 H1.out.b2)
      | (go_at_call 26;refine (tooGreat_calls b pb w1 (H1.out.i2.mono H1.out.bel.size)).mono ?_;rintro e w2 ⟨rfl,hb⟩;rw [HGB.out];have H2:=Ak (H1.out.later hb);clear hb;clear c0 c1 c2 c3 c4 c5 c6 c7;obtain ⟨c0,c1,c2,c3,c4,c5,c6,c7⟩:=row8 H2.out.b3)
      | (go_at_call 26;refine (tooGreat_calls c pc w2 (H2.out.i3.mono H2.out.bel.size)).mono ?_;rintro e w3 ⟨rfl,hb⟩;rw [HGC.out];have H3:=Ak (H2.out.later hb);clear hb;clear c0 c1 c2 c3 c4 c5 c6 c7))
     go_upto_region 3 with (fail)
     refine tk3_region w3 w.heap.size n w.heap.size A cA l nm Bv nb cb ls H3.out.bel.size H3.out.b0 (HL.out.stay H3.out.bel) (HLS.out.stay H3.out.bel) HNB.out HNN.out HNM.out H40.out ?_
     intro w4 u17 u18 u19 u47 u49 u52 v10 O10 v11 O11 v12 O12 hch h10 _ h11 _ h12 _
     have hb4:Below w3.heap.size w3 w4:=hch.below (fun _ h=>h.elim False.elim False.elim) (Nat.le_refl _)
     have H4:=Ak (H3.out.later hb4)
     obtain ⟨p17,rfl,k17⟩:=h10
     obtain ⟨p18,rfl,k18⟩:=h11
     obtain ⟨p19,rfl,k19⟩:=h12
     obtain ⟨q17,k17⟩:=k17.inb
     obtain ⟨q18,k18⟩:=k18.inb
     obtain ⟨q19,k19⟩:=k19.inb
     obtain ⟨y,hy⟩:∃ y,y=owP l:=⟨_,rfl⟩
     have HSL:=Ak (show slB y l=true by rw [hy];exact sl_ow l)
     have HOL:=Ak (show OKL y l by rw [hy];exact ow_m HML.out)
     have e18:sortT l=.mk 2 0 noName y [] []:=by unfold sortT;rw [hy]
     rw [e18] at k18
     rw [consT_eq] at k19
     have HYI:=Ak (show LvIn w4 w4.heap.size q18.A q18.c y from k18.tm.lv)
     have HLI:=Ak (show LvIn w4 w4.heap.size A cA l from (HL.out.stay H4.out.bel).mono H4.out.bel.size)
     have HSC:=Ak (show Calls Try.prog 29 #[.agg #[.int .i64 y.kind,.int .i64 y.num,.slice q18.A y.kids.length q18.c],.agg #[.int .i64 l.kind,.int .i64 l.num,.slice A l.kids.length cA]] w4 fun e w'=>e=.returned (.bool true)∧Below w4.heap.size w4 w' from (slevel_calls q18.A A q18.c cA y l w4 HOL.out HYI.out HLI.out).mono fun e w' h=>⟨by rw [h.1,HSL.out],h.2⟩)
     obtain ⟨a0,a1,-,-,-,-,-,-⟩:=row8 k17.box
     replace a0:w4.cell? ⟨p17,0,none⟩=some (.int .i64 1):=a0
     replace a1:w4.cell? ⟨p17,1,none⟩=some (.int .i64 n):=a1
     obtain ⟨s0,-,-,s3,s4,s5,-,-⟩:=row8 k18.box
     replace s0:w4.cell? ⟨p18,0,none⟩=some (.int .i64 2):=s0
     replace s3:w4.cell? ⟨p18,3,none⟩=some (.int .i64 y.kind):=s3
     replace s4:w4.cell? ⟨p18,4,none⟩=some (.int .i64 y.num):=s4
     replace s5:w4.cell? ⟨p18,5,none⟩=some (.slice q18.A y.kids.length q18.c):=s5
     have k19b:=k19.box
     obtain ⟨l0,l1,l2,-,-,-⟩:=row3 H4.out.b0
     clear hch hb4 e18 hy
     go_upto_if 92 with (go_at_call 29;go_must (refine HSC.out.mono ?_;rintro e w5 ⟨rfl,hb⟩;have H5:=Ak (H4.out.later hb);have k19c:=(hb.block _ (blk_lt k19b)).trans k19b;obtain ⟨t0,-,t2,-,-,-,t6,-⟩:=row8 k19c;replace t0:w5.cell? ⟨p19,0,none⟩=some (.int .i64 7):=t0;replace t2:w5.cell? ⟨p19,2,none⟩=some (.string nm):=t2;replace t6:w5.cell? ⟨p19,6,none⟩=some (.slice q19.B (ls.map owP).length q19.d):=t6;rw [List.length_map,← HNB.out] at t6;clear hb k19c))
     clear a0 a1 s0 s3 s4 s5 l0 l1 l2 t0 t2 t6
     go_upto_region 6 with (fail)
     refine tk6_region w5 w.heap.size (w.heap.size+1) pa a (w.heap.size+1+1) pb b (w.heap.size+1+1+1) pc c H5.out.bel.size H5.out.b1 H5.out.i1 H5.out.b2 H5.out.i2 H5.out.b3 H5.out.i3 ?_
     intro w6 u20 u21 u22 u95 u98 u102 v13 O13 v14 O14 v15 O15 hch h13 _ h14 _ h15 _
     have H6:=Ak (H5.out.later (hch.below (fun _ h=>h.elim False.elim False.elim) (Nat.le_refl _)))
     obtain ⟨p20,rfl,k20⟩:=h13
     obtain ⟨p21,rfl,k21⟩:=h14
     obtain ⟨p22,rfl,k22⟩:=h15
     obtain ⟨q20,k20⟩:=k20.inb
     obtain ⟨q21,k21⟩:=k21.inb
     obtain ⟨q22,k22⟩:=k22.inb
     obtain ⟨dp,op,dm,om,de,oe,q1,q2,q3,q4,m1,m2,m3,m4⟩:=makes_kids w6 a b c p20 p21 p22 q20 q21 q22 k20 k21 k22
     clear hch
     go_upto_region 7 with (fail)
     refine tk7_region w6 w6.heap.size p20 q20 (madeT 3 [a,b]) p21 q21 (madeT 4 [a,b]) p22 q22 (madeT 5 [a,b,c]) (w.heap.size+1) pa a (w.heap.size+1+1) pb b (w.heap.size+1+1+1) pc c dp op dm om de oe q1 q2 q3 q4 (ownT b) (ownT a) (ownT b) (ownT c) (Nat.le_refl _) k20.box k20.tm k21.box k21.tm k22.box k22.tm H6.out.b1 (H6.out.i1.mono H6.out.bel.size) H6.out.b2 (H6.out.i2.mono H6.out.bel.size) H6.out.b3 (H6.out.i3.mono H6.out.bel.size)
      rfl rfl m1.K k20.tm.len m1.lt rfl rfl m2.K k21.tm.len m2.lt rfl rfl m3.K k22.tm.len m3.lt
      (m1.cells 0 _ rfl) (m1.cells 1 _ rfl) (m1.cells 2 _ rfl) (m1.cells 3 _ rfl) (m1.cells 4 _ rfl) (m1.cells 5 _ rfl) (m1.cells 6 _ rfl) (m1.cells 7 _ rfl) m1.tm (fun _ _=>TmM.cmp _ _ (Nat.lt_succ_self _) (own_m HMB.out) _) (own_alike HKB.out) (m2.cell0 0 _ rfl) (m2.cell0 1 _ rfl) (m2.cell0 2 _ rfl) (m2.cell0 3 _ rfl) (m2.cell0 4 _ rfl) (m2.cell0 5 _ rfl) (m2.cell0 6 _ rfl) (m2.cell0 7 _ rfl) m2.tm (fun _ _=>TmM.cmp _ _ (Nat.lt_succ_self _) (own_m HMA.out) _) (own_alike HKA.out) (m3.cells 0 _ rfl) (m3.cells 1 _ rfl) (m3.cells 2 _ rfl) (m3.cells 3 _ rfl) (m3.cells 4 _ rfl) (m3.cells 5 _ rfl) (m3.cells 6 _ rfl) (m3.cells 7 _ rfl) m3.tm (fun _ _=>TmM.cmp _ _ (Nat.lt_succ_self _) (own_m HMB.out) _) (own_alike HKB.out) (m4.cells 0 _ rfl) (m4.cells 1 _ rfl) (m4.cells 2 _ rfl) (m4.cells 3 _ rfl) (m4.cells 4 _ rfl) (m4.cells 5 _ rfl) (m4.cells 6 _ rfl) (m4.cells 7 _ rfl) m4.tm (fun _ _=>TmM.cmp _ _ (Nat.lt_succ_self _) (own_m HMC.out) _) (own_alike HKC.out) ?_
     intro w7 hch
     have H7:=Ak (H6.out.later (hch.below (fun _ h=>h.elim False.elim False.elim) (Nat.le_refl _)))
     clear hch k20 k21 k22 m1 m2 m3 m4 k17 k18 k19 k19b
     by_cases k20n:(20:Int)<(nx:Int)
     ·go_wp2_with (go_at_call 25;go_must (refine (awake_calls w7).mono ?_;rintro e w9 ⟨rfl,hb⟩;have H9:=Ak (H7.out.later hb);clear hb))
      go_ret
      exact ⟨rfl,H9.out.bel⟩
     ·go_upto_region 11 with (fail)
      refine tk11_region w7 w.heap.size (w.heap.size+1) pa a Lx nx cx qx xs H7.out.bel.size H7.out.b1 H7.out.i1 (HXS.out.same fun k hk _=>H7.out.bel.block k hk) HNX.out (by omega) ?_
      intro w8 u23 u24 u176 u179 v8 O8 v9 O9 hch h8 _ h9 _
      have H8:=Ak (show Below w.heap.size w w8 from below_then H7.out.bel H7.out.bel.size (hch.below (fun _ h=>h.elim False.elim False.elim) (Nat.le_refl _)))
      obtain ⟨p23,rfl,k23⟩:=h8
      obtain ⟨p24,rfl,k24⟩:=h9
      obtain ⟨q23,k23⟩:=k23.inb
      obtain ⟨q24,k24⟩:=k24.inb
      obtain ⟨hto,huo,-⟩:=makes_pair a xs
      have HTO:=Ak hto
      have HUO:=Ak huo
      have HAL:=Ak (makes_alike a xs)
      have HAH:=Ak (makes_head a xs)
      have HAA:=Ak (makes_args a xs)
      have HTM:=Ak (appsT_m HMA.out HMX.out)
      have HUM:=Ak (appsR_m HMA.out HMX.out)
      clear hch hto huo k20n HMX HKA HKB HKC
      obtain ⟨T1,hT1⟩:∃ T,T=AppsT a xs:=⟨_,rfl⟩
      obtain ⟨U1,hU1⟩:∃ T,T=AppsR a xs:=⟨_,rfl⟩
      rw [← hT1] at k23 HTO HAL HAH HAA HTM
      rw [← hU1] at k24 HUO HAL HAH HAA HUM
      have K23:=Ak k23
      have K24:=Ak k24
      obtain ⟨s,hs⟩:∃ s,s=(measP U1).1:=⟨_,rfl⟩
      have HS:=Ak hs
      have hs0:(s == 0)=false:=by
       rw [hs,meas_yes HUO.out]
       have:=size_pos U1
       simp
       omega
      clear hT1 hU1 k23 k24 hs
      go_upto_region 14 with (first
       | (refine wpList_load_row rfl 28 _ rfl (p24) rfl 28 _ (0,0) _ K24.out.box Try.underlying28 rfl (by kernel_rfl) ?_)
       | (go_at_call 21;go_must (refine (refSize_calls U1 q24 w8 K24.out.tm).mono ?_;rw [← HS.out];rintro e w9 ⟨rfl,hb⟩;have K239:=Ak (K23.out.later hb);have K249:=Ak (K24.out.later hb);have H9:=Ak (below_then H8.out H8.out.size hb);clear hb)))
      obtain ⟨y1,hy1⟩:∃ y,y=ownT (spH T1):=⟨_,rfl⟩
      obtain ⟨L1,hL1⟩:∃ L,L=(spA T1).map ownT:=⟨_,rfl⟩
      obtain ⟨y2,hy2⟩:∃ y,y=spH U1:=⟨_,rfl⟩
      obtain ⟨L2,hL2⟩:∃ L,L=spA U1:=⟨_,rfl⟩
      have HM1:=Ak (show TmM y1 by rw [hy1];exact own_m (sp_m _ _ (Nat.lt_succ_self _) HTM.out).1)
      have HML1:=Ak (show ∀ x∈L1,TmM x by
       rw [hL1]
       intro x hx
       obtain ⟨z,hz,rfl⟩:=List.mem_map.1 hx
       exact own_m ((sp_m _ _ (Nat.lt_succ_self _) HTM.out).2 z hz))
      have HL1L:=Ak (show L1.length≤2000 by rw [hL1,List.length_map];have:=sp_len _ T1 (Nat.lt_succ_self _);have:=HTO.out.2;omega)
      rw [← hy1,← hy2] at HAH
      rw [← hL1,← hL2] at HAA
      have HY1:=Ak hy1
      have HL1:=Ak hL1
      have HY2:=Ak hy2
      have HL2:=Ak hL2
      clear hy1 hL1 hy2 hL2
      go_upto_region 15 with (first
       | (refine wpList_load_row rfl 28 _ rfl (p23) rfl 28 _ (0,0) _ K239.out.box Try.underlying28 rfl (by kernel_rfl) ?_)
       | (go_at_call 34;go_must (refine (spine_calls (fun k=>k<w9.heap.size) w9.heap.size (fun k h=>h) T1 q23 w9 HTO.out (Nat.le_refl _) K239.out.tm).mono ?_;rw [← HY1.out,← HL1.out];rintro e w10 ⟨r1,A1,n1,c1,qq1,rfl,hn1,ht1,hr1,hb⟩;have HN1:=Ak hn1;have HT1:=Ak (TmS.all ht1);have HR1:=Ak (hr1.mono (S':=fun k=>k<w10.heap.size) fun k _ hz=>hz);have K2310:=Ak (K239.out.later hb);have K2410:=Ak (K249.out.later hb);have H10:=Ak (below_then H9.out H9.out.size hb);clear hn1 ht1 hr1 hb;unfold tmV)))
      obtain ⟨W11,hW11⟩:∃ W11,W11=w10.alloc (tmO r1 y1):=⟨_,rfl⟩
      have hb11:Below w10.heap.size w10 W11:=by rw [hW11];exact below_alloc (Below.refl _ _) _
      have K25:=Ak (show InBox W11 w10.heap.size r1 y1 from ⟨by rw [hW11];exact blk_new _ _,TmS.all (HT1.out.stay hb11)⟩)
      have K2311:=Ak (K2310.out.later hb11)
      have K2411:=Ak (K2410.out.later hb11)
      have HR11:=Ak (HR1.out.same fun k hk _=>hb11.block k hk)
      have H11:=Ak (below_then H10.out H10.out.size hb11)
      have hz11:w10.heap.size≤W11.heap.size:=hb11.size
      unfold tmO at hW11
      rw [← hW11]
      clear hW11 hb11 HT1 HR1
      go_upto_region 16 with (first
       | (refine wpList_load_row rfl 28 _ rfl (p24) rfl 28 _ (0,0) _ K2411.out.box Try.underlying28 rfl (by kernel_rfl) ?_)
       | (go_at_call 35;go_must (refine (rspine_calls (fun k=>k<W11.heap.size) W11.heap.size (fun k h=>h) U1 q24 W11 HUO.out (Nat.le_refl _) K2411.out.tm).mono ?_;rw [← HY2.out,← HL2.out];rintro e w12 ⟨r2,A2,n2,c2,qq2,rfl,hn2,ht2,hr2,hb⟩;have HN2:=Ak hn2;have HT2:=Ak (TmS.all ht2);have HR2:=Ak (hr2.mono (S':=fun k=>k<w12.heap.size) fun k _ hz=>hz);have K2512:=Ak (K25.out.later hb);have K2312:=Ak (K2311.out.later hb);have K2412:=Ak (K2411.out.later hb);have HR12:=Ak (HR11.out.same fun k hk _=>hb.block k (by omega));have H12:=Ak (below_then H11.out H11.out.size hb);have hz12:w10.heap.size≤w12.heap.size:=Nat.le_trans hz11 hb.size;clear hn2 ht2 hr2 hb;unfold tmV)))
      have hnn:n1=n2:=by rw [HN2.out,HN1.out,HAA.out.1]
      subst hnn
      obtain ⟨W13,hW13⟩:∃ W13,W13=w12.alloc (tmO r2 y2):=⟨_,rfl⟩
      have hb13:Below w12.heap.size w12 W13:=by rw [hW13];exact below_alloc (Below.refl _ _) _
      have K27:=Ak (show InBox W13 w12.heap.size r2 y2 from ⟨by rw [hW13];exact blk_new _ _,TmS.all (HT2.out.stay hb13)⟩)
      have K25d:=Ak (K2512.out.later hb13)
      have K23d:=Ak (K2312.out.later hb13)
      have K24d:=Ak (K2412.out.later hb13)
      have HR1d:=Ak (HR12.out.same fun k hk _=>hb13.block k (by omega))
      have HR2d:=Ak (HR2.out.same fun k hk _=>hb13.block k hk)
      have H13:=Ak (below_then H12.out H12.out.size hb13)
      have hz13:w12.heap.size≤W13.heap.size:=hb13.size
      unfold tmO at hW13
      rw [← hW13]
      clear hW13 hb13 HT2 HR2 HR12 HR11
      refine tk16_region W13 W13.heap.size w10.heap.size r1 y1 w12.heap.size r2 y2 p23 q23 T1 p24 q24 U1 A1 A2 n1 c1 c2 (Nat.le_refl _) K25d.out.box K25d.out.tm K27.out.box K27.out.tm K23d.out.box K23d.out.tm K24d.out.box K24d.out.tm (fun _ _=>TmM.cmp _ _ (Nat.lt_succ_self _) HM1.out _) (fun _ _=>TmM.cmp _ _ (Nat.lt_succ_self _) HTM.out _) HAH.out HAL.out ?_
      intro w15 hch
      have hb15:Below W13.heap.size W13 w15:=hch.below (fun _ h=>h.elim False.elim False.elim) (Nat.le_refl _)
      have H15:=Ak (below_then H13.out H13.out.size hb15)
      have HR115:=Ak (HR1d.out.same fun k hk _=>hb15.block k (by omega))
      have HR215:=Ak (HR2d.out.same fun k hk _=>hb15.block k (by omega))
      have hz15:W13.heap.size≤w15.heap.size:=hb15.size
      clear hch hb15 HR1d HR2d
      have hn1b:n1≤2000:=by rw [HN1.out];exact HL1L.out
      go_wp2
      go_loopw [218] (fun i wr=>∃ (k:Nat),i=.int .i64 k∧k≤n1∧Aside0 (Below w15.heap.size w15 wr)) (fun i _=>n1 - (intOf i).toNat)
      case atStart=>exact ⟨0,rfl,Nat.zero_le _,⟨Below.refl _ _⟩⟩
      case round =>
       obtain ⟨k,rfl,hk,HBR⟩:=hrel
       by_cases hlt:k<n1
       ·obtain ⟨x1,hx1⟩:∃ x,L1[k]?=some x:=⟨_,List.getElem?_eq_getElem (by rw [← HN1.out];exact hlt)⟩
        obtain ⟨x2,hx2⟩:∃ x,L2[k]?=some x:=⟨_,List.getElem?_eq_getElem (by rw [← HN2.out];exact hlt)⟩
        obtain ⟨⟨d1,o1,e1,hs1,hc1⟩,ht1⟩:=HR115.out k x1 hx1
        obtain ⟨⟨d2,o2,e2,hs2,hc2⟩,ht2⟩:=HR215.out k x2 hx2
        have HE1:=Ak e1
        have HE2:=Ak e2
        have HA12:=Ak (HAA.out.2 k x1 x2 hx1 hx2)
        have HCO:=Ak (show okT x1→okT x2→CmpOk x1 x2 from fun _ _=>TmM.cmp _ _ (Nat.lt_succ_self _) (HML1.out x1 (List.mem_of_getElem? hx1)) _)
        have f1:∀ (j:Nat) (v:Value),(tmC (qq1 k) x1)[j]?=some v→wr.cell? ⟨d1,o1+k * 8+j,none⟩=some v:=fun j v hv=>(cell_same (HBR.out.block d1 (Nat.lt_of_lt_of_le hs1 (by omega)))).trans (hc1 j v hv)
        have f2:∀ (j:Nat) (v:Value),(tmC (qq2 k) x2)[j]?=some v→wr.cell? ⟨d2,o2+k * 8+j,none⟩=some v:=fun j v hv=>(cell_same (HBR.out.block d2 (Nat.lt_of_lt_of_le hs2 (by omega)))).trans (hc2 j v hv)
        have HF1:=Ak f1
        have HF2:=Ak f2
        have HT1:=Ak (show TmIn wr w15.heap.size (qq1 k) x1 from (ht1.same fun j hj _=>HBR.out.block j (by omega)).mono fun j hj _=>by omega)
        have HT2:=Ak (show TmIn wr w15.heap.size (qq2 k) x2 from (ht2.same fun j hj _=>HBR.out.block j (by omega)).mono fun j hj _=>by omega)
        have hd1:d1<w15.heap.size:=Nat.lt_of_lt_of_le hs1 (by omega)
        have hd2:d2<w15.heap.size:=Nat.lt_of_lt_of_le hs2 (by omega)
        rw [e1,e2]
        clear hx1 hx2 e1 e2 hs1 hs2 hc1 hc2 ht1 ht2 f1 f2
        go_upto_region 21 with (fail)
        refine tk21_region wr w15.heap.size d1 o1 n1 c1 d2 o2 n1 c2 k (qq1 k) (qq2 k) x1 x2 HBR.out.size hd1 hd2 hlt hlt (by omega) (by omega) (HF1.out 0 _ rfl) (HF1.out 1 _ rfl) (HF1.out 2 _ rfl) (HF1.out 3 _ rfl) (HF1.out 4 _ rfl) (HF1.out 5 _ rfl) (HF1.out 6 _ rfl) (HF1.out 7 _ rfl) (HF2.out 0 _ rfl) (HF2.out 1 _ rfl) (HF2.out 2 _ rfl) (HF2.out 3 _ rfl) (HF2.out 4 _ rfl) (HF2.out 5 _ rfl) (HF2.out 6 _ rfl) (HF2.out 7 _ rfl) HT1.out HT2.out HCO.out HA12.out ?_
        intro w16 hch
        have HB16:=Ak (below_then HBR.out HBR.out.size (hch.below (fun _ h=>h.elim False.elim False.elim) (Nat.le_refl _)))
        clear hch
        go_wp2
        go_roundw
        case rel=>exact ⟨k+1,by go_num,by omega,HB16⟩
        case measure=>(simp [intOf];try omega)
       ·obtain rfl:k=n1:=by omega
        have hlt':decide ((k:Int)<k)=false:=by simp
        go_wp2_with (go_at_call 25;go_must (refine (awake_calls wr).mono ?_;rintro e w17 ⟨rfl,hb⟩;have H17:=Ak (below_then (below_then H15.out H15.out.size HBR.out) (Nat.le_trans H15.out.size HBR.out.size) hb);clear hb))
        go_ret
        exact ⟨rfl,H17.out⟩
   ·have HGC:=Ak (show (!decide (okT c))=true by simp [kc])
    clear kc
    go_upto_if 44 with (first
     | (go_at_call 26;refine (tooGreat_calls a pa W (H0.out.i1.mono H0.out.bel.size)).mono ?_;rintro e w1 ⟨rfl,hb⟩;rw [HGA.out];have H1:=Ak (H0.out.later hb);clear hb;clear c0 c1 c2 c3 c4 c5 c6 c7;obtain ⟨c0,c1,c2,c3,c4,c5,c6,c7⟩:=row8 H1.out.b2)
     | (go_at_call 26;refine (tooGreat_calls b pb w1 (H1.out.i2.mono H1.out.bel.size)).mono ?_;rintro e w2 ⟨rfl,hb⟩;rw [HGB.out];have H2:=Ak (H1.out.later hb);clear hb;clear c0 c1 c2 c3 c4 c5 c6 c7;obtain ⟨c0,c1,c2,c3,c4,c5,c6,c7⟩:=row8 H2.out.b3)
     | (go_at_call 26;refine (tooGreat_calls c pc w2 (H2.out.i3.mono H2.out.bel.size)).mono ?_;rintro e w3 ⟨rfl,hb⟩;rw [HGC.out];have H3:=Ak (H2.out.later hb);clear hb;clear c0 c1 c2 c3 c4 c5 c6 c7))
    go_wp2_with (go_at_call 25;go_must (refine (awake_calls w3).mono ?_;rintro e w9 ⟨rfl,hb⟩;have H9:=Ak (H3.out.later hb);clear hb))
    go_ret
    exact ⟨rfl,H9.out.bel⟩
  ·have HGB:=Ak (show (!decide (okT b))=true by simp [kb])
   clear kb
   go_upto_if 44 with (first
    | (go_at_call 26;refine (tooGreat_calls a pa W (H0.out.i1.mono H0.out.bel.size)).mono ?_;rintro e w1 ⟨rfl,hb⟩;rw [HGA.out];have H1:=Ak (H0.out.later hb);clear hb;clear c0 c1 c2 c3 c4 c5 c6 c7;obtain ⟨c0,c1,c2,c3,c4,c5,c6,c7⟩:=row8 H1.out.b2)
    | (go_at_call 26;refine (tooGreat_calls b pb w1 (H1.out.i2.mono H1.out.bel.size)).mono ?_;rintro e w2 ⟨rfl,hb⟩;rw [HGB.out];have H2:=Ak (H1.out.later hb);clear hb;clear c0 c1 c2 c3 c4 c5 c6 c7;obtain ⟨c0,c1,c2,c3,c4,c5,c6,c7⟩:=row8 H2.out.b3))
   go_wp2_with (go_at_call 25;go_must (refine (awake_calls w2).mono ?_;rintro e w9 ⟨rfl,hb⟩;have H9:=Ak (H2.out.later hb);clear hb))
   go_ret
   exact ⟨rfl,H9.out.bel⟩
 ·have HGA:=Ak (show (!decide (okT a))=true by simp [ka])
  clear ka
  go_upto_if 44 with (go_at_call 26;refine (tooGreat_calls a pa W (H0.out.i1.mono H0.out.bel.size)).mono ?_;rintro e w1 ⟨rfl,hb⟩;rw [HGA.out];have H1:=Ak (H0.out.later hb);clear hb;clear c0 c1 c2 c3 c4 c5 c6 c7;obtain ⟨c0,c1,c2,c3,c4,c5,c6,c7⟩:=row8 H1.out.b2)
  go_wp2_with (go_at_call 25;go_must (refine (awake_calls w1).mono ?_;rintro e w9 ⟨rfl,hb⟩;have H9:=Ak (H1.out.later hb);clear hb))
  go_ret
  exact ⟨rfl,H9.out.bel⟩
end Go.Proofs.Ytdboloabpjmgaaa

namespace Go.Proofs.Ytdboloabpjmgaaa
open Go.RowKit Go.Proofs.YtdboloabpjmgaaaW.PrintWords Go.RegionInvYtdboloabpjmgaaa Go.ChangeShapes Go.WideShapes Go.Deep

section
variable {H:Type} {enc:TypeId × Value→H} {W:World} {base:Nat} {sp:Nat→Bool} {held:Bool}
set_option maxRecDepth 100000 in
theorem tms_openM {fuel:Nat} {v7:Value} {y5:DataW H × List MemPlace} (g5:DataW.trod enc Try.prog W base sp held fuel 26 [v7]=some y5) (z5:Sized 26 y5.1) :
  ∃ (xs:List Tm) (A:Option Addr) (c:Nat) (q:Nat→Pl),v7=.slice A xs.length c∧TmsS W (fun _=>True) A q xs∧∀ x∈xs,TmM x:=by
 rcases DataW.trod_slice Try.underlying26 g5 with ⟨e5,_⟩ | ⟨a,len,cap,elems,rest,n',hn',e5,hy,_,hle,hm,hlen,hel,_,_⟩
 ·obtain rfl:v7=.slice none 0 0:=by simpa using e5
  exact ⟨[],none,0,fun _=>default,rfl,TmsS.nil _ _ _ _,fun x hx=>by simp at hx⟩
 ·obtain rfl:v7=.slice (some a) len cap:=by simpa using e5
  subst hy
  have hz:=(sized_slices Try.underlying26 z5).2
  have hc8:Try.prog.cellsOf 28=8:=by kernel_rfl
  rw [hc8] at hel
  have each:∀ i,i<len→∃ q:Tm × Pl,W.cells? base (a.add (i * 8)) 8=some (tmC q.2 q.1)∧TmS W (fun _=>True) q.2 q.1∧TmM q.1:=by
   intro i hi
   have hq:=hel i hi
   rw [List.getElem?_eq_getElem (by omega)] at hq
   obtain ⟨cs',h1,h2⟩:=Option.bind_eq_some_iff.1 hq
   obtain ⟨t,p,rfl,h3,h4⟩:=tm_openM n' n' (Nat.le_refl _) cs' _ h2 (hz i _ (by rw [List.getElem?_map,List.getElem?_eq_getElem (by omega)];rfl))
   exact ⟨(t,p),h1,h3,h4⟩
  obtain ⟨q,hq⟩:=choose_lt each
  have hcell:∀ i,i<len→∀ j,j<8→W.cell? ((a.add (i * 8)).add j)=(tmC (q i).2 (q i).1)[j]?:=fun i hi j hj=>(World.cells?_some (hq i hi).1).2.2 j hj
  have hget:∀ (i:Nat) (x:Tm),((List.range len).map fun i=>(q i).1)[i]?=some x→i<len∧x=(q i).1:=by
   intro i x hx
   have hi:i<len:=by
    rcases Nat.lt_or_ge i len with h | h
    ·exact h
    ·rw [List.getElem?_eq_none (by simpa using h)] at hx;cases hx
   rw [List.getElem?_map,List.getElem?_range hi] at hx
   exact ⟨hi,(Option.some.inj hx).symm⟩
  refine ⟨(List.range len).map fun i=>(q i).1,some a,cap,fun i=>(q i).2,by simp,fun i x hx=>⟨?_,?_⟩,range_all fun i hi=>(hq i hi).2.2⟩
  ·obtain ⟨hi,rfl⟩:=hget i x hx
   have h0:=hcell 0 (by omega) 0 (by omega)
   simp only [Nat.zero_mul,Addr.add,if_true] at h0
   have hsp:a.spot=none:=plain_addr (h0.trans (by rfl))
   obtain ⟨b,o,z⟩:=a
   obtain rfl:z=none:=hsp
   refine ⟨b,o,rfl,trivial,fun j v hv=>?_⟩
   have hj:j<8:=by
    rcases Nat.lt_or_ge j 8 with h | h
    ·exact h
    ·rw [List.getElem?_eq_none (by rw [tmC_len];exact h)] at hv;cases hv
   have c0:=hcell i hi j hj
   simp only [add_flat] at c0
   rw [c0]
   exact hv
  ·obtain ⟨hi,rfl⟩:=hget i x hx
   exact (hq i hi).2.1
set_option maxRecDepth 100000 in
theorem tms_inM {v:Value} {d:DataW H} {ps:List MemPlace} {r:Reach} {b0:Nat} (hv:Value.okWide Try.prog W r b0 26 v) (h:DataW.Trod enc Try.prog W base sp held 26 v d ps) (hw:Sized 26 d) :
  ∃ (xs:List Tm) (A:Option Addr) (c n:Nat) (q:Nat→Pl),v=.slice A n c∧n=xs.length∧TmsS W (fun _=>True) A q xs∧∀ x∈xs,TmM x:=by
 obtain ⟨a,len,cap,rfl⟩:=okWide_slice Try.underlying26 hv
 obtain ⟨fuel,hf⟩:=h
 obtain ⟨xs,A,c,q,he,hx,hm⟩:=tms_openM (v7:=.slice a len cap) hf hw
 exact ⟨xs,A,c,_,q,he,rfl,hx,hm⟩
end
theorem TmsS.all {w:World} {S:Nat→Prop} {A:Option Addr} {q:Nat→Pl} {xs:List Tm} (h:TmsS w S A q xs):TmsS w (fun k=>k<w.heap.size) A q xs:=h.mono fun k _ hz=>hz
end Go.Proofs.Ytdboloabpjmgaaa
