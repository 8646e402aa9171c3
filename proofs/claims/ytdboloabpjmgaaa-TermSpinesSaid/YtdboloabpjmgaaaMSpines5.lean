/-
  Merged: RfNR, RfN, RfL, RfIR, RfI, TSpR, LawSp.
-/
import Derived.Test.YtdboloabpjmgaaaMSpines4
namespace Go.Proofs.Ytdboloabpjmgaaa
open Go.RowKit Go.Proofs.YtdboloabpjmgaaaW.PrintWords Go.RegionInvYtdboloabpjmgaaa Go.RegionEYtdboloabpjmgaaa
set_option linter.unusedVariables false

def NfBoxF (g:Nat) (f:Nf) (w:World) (O:Nat→Prop):Prop:=∃ A n cap,w.heap[g]?=some (.cells #[.int .i64 f.1,.slice A n cap] 86 (0,0))∧O g∧n≤cap∧IntsS w (fun k=>O k∧k≠g) A n f.2
theorem stableE_nfboxF {w0:World} {E:Nat→Nat→Prop} {f:Nf} {g:Nat}:StableE w0 E (fun _ w O=>NfBoxF g f w O):=by
 rintro v w w' O ⟨A,n,cap,hb,hO,h1,h2⟩ hz hk
 exact ⟨A,n,cap,(hk g (blk_lt hb) (.inr hO)).trans hb,hO,h1,h2.same fun k hk' hz'=>hk k hz' (.inr hk'.1)⟩

def rn1_ops:List Oper:=[
 { dst:=some 32,op:=Go.Op.fieldAddr 25 (Go.Operand.tmp 1) 2,type:=0,pos:= "ref.go:137",after:=#[],guard:=none },
 { dst:=some 33,op:=Go.Op.load 23 (Go.Operand.tmp 32),type:=23,pos:= "ref.go:137",after:=#[{ on:=0,ground:=Go.Ground.data }],guard:=none },
 { dst:=some 34,op:=Go.Op.indexAddr 23 (Go.Operand.tmp 33) (Go.Operand.const (Go.Value.int Go.IntKind.i64 0)),type:=0,pos:= "ref.go:137",after:=#[{ on:=1,ground:=Go.Ground.data }],guard:=none },
 { dst:=some 35,op:=Go.Op.load 25 (Go.Operand.tmp 34),type:=25,pos:= "ref.go:137",after:=#[{ on:=2,ground:=Go.Ground.data }],guard:=none },
 { dst:=some 36,op:=Go.Op.call { callee:=Go.Callee.value (Go.Operand.func 90),args:=#[Go.Operand.tmp 35],argTypes:=#[25] },type:=86,pos:= "ref.go:137",after:=#[{ on:=3,ground:=Go.Ground.data }],guard:=none },
 { dst:=some 37,op:=Go.Op.fieldAddr 25 (Go.Operand.tmp 1) 1,type:=0,pos:= "ref.go:137",after:=#[],guard:=none },
 { dst:=some 38,op:=Go.Op.load 3 (Go.Operand.tmp 37),type:=3,pos:= "ref.go:137",after:=#[{ on:=5,ground:=Go.Ground.data }],guard:=none },
 { dst:=some 39,op:=Go.Op.call { callee:=Go.Callee.value (Go.Operand.func 92),args:=#[Go.Operand.tmp 36,Go.Operand.tmp 38],argTypes:=#[86,3] },type:=86,pos:= "ref.go:137",after:=#[{ on:=4,ground:=Go.Ground.data },{ on:=6,ground:=Go.Ground.data },{ on:=4,ground:=Go.Ground.chain }],guard:=none },
 { dst:=none,op:=Go.Op.store 86 (Go.Operand.tmp 2) (Go.Operand.tmp 39),type:=0,pos:= "ref.go:137",after:=#[{ on:=7,ground:=Go.Ground.data },{ on:=7,ground:=Go.Ground.chain },{ on:=0,ground:=Go.Ground.phase },{ on:=1,ground:=Go.Ground.phase },{ on:=2,ground:=Go.Ground.phase },{ on:=3,ground:=Go.Ground.phase },{ on:=4,ground:=Go.Ground.phase },{ on:=5,ground:=Go.Ground.phase },{ on:=6,ground:=Go.Ground.phase },{ on:=7,ground:=Go.Ground.phase }],guard:=none }]
def rn1_F (w0:World) (b:Nat) (k n:Int) (gb off m c:Nat) (g0 B0:Value) (xk0 xn0:Int) (A0:Option Addr) (m0 c0:Nat) (f0:Nf)  : Nat→(Nat→Value)→Value→World→(Nat→Prop)→Prop:=fun rix=>match rix with
 | 0=>fun _ v _ _=>v=.pointer (some ⟨b,2,none⟩)
 | 1=>fun _ v _ _=>v=.slice (some ⟨gb,off,none⟩) m c
 | 2=>fun _ v _ _=>v=.pointer (some ⟨gb,off,none⟩)
 | 3=>fun _ v _ _=>v=.agg #[.int .i64 xk0,.int .i64 xn0,.slice A0 m0 c0]
 | 4=>fun τ v w O=>NfV (fun _=>False) f0 v w O
 | 5=>fun _ v _ _=>v=.pointer (some ⟨b,1,none⟩)
 | 6=>fun _ v _ _=>v=.int .i64 n
 | 7=>fun τ v w O=>NfV (fun _=>False) (shortN (plusR n f0)) v w O
 | 8=>fun τ v w O=>NfBoxF (b+1) (shortN (plusR n f0)) w O
 | _=>fun _ _ _ _=>True
def rn1_C:Nat→List Nat:=fun rix=>match rix with
 | 8=>[7]
 | _=>[]
theorem rn1_nw1:nwB rn1_ops.toArray 1=true:=by kernel_rfl
theorem rn1_nw2:nwB rn1_ops.toArray 2=true:=by kernel_rfl
set_option maxRecDepth 100000 in
set_option maxHeartbeats 8000000 in
theorem rn1_obs (w0:World) (b:Nat) (k n:Int) (gb off m c:Nat) (g0 B0:Value) (xk0 xn0:Int) (A0:Option Addr) (m0 c0:Nat) (f0:Nf)  (hx2:w0.heap[b]?=some (.cells #[.int .i64 k,.int .i64 n,.slice (some ⟨gb,off,none⟩) m c] 25 (0,0))) (hx4:w0.heap[b+1]?=some (.cells #[g0,B0] 86 (0,0))) (hgb:gb<b) (hc0:w0.cell? ⟨gb,off,none⟩=some (.int .i64 xk0)) (hc1:w0.cell? ⟨gb,off+1,none⟩=some (.int .i64 xn0)) (hc2:w0.cell? ⟨gb,off+2,none⟩=some (.slice A0 m0 c0)) (hof0:∀ w,(∀ k,k<b→w.heap[k]?=w0.heap[k]?)→w0.heap.size≤w.heap.size→Calls Try.prog 90 #[.agg #[.int .i64 xk0,.int .i64 xn0,.slice A0 m0 c0]] w (NfGot w (fun _=>False) f0)) (hm:0<m) (hn0:0≤n) (hn1:n≤1099511627776) (hf0:NfOk f0) (Q:Exit→Act→World→Prop) (a0:Act) (hi1:a0.tmps.getD 1 undef=.pointer (some ⟨b,0,none⟩)) (hi2:a0.tmps.getD 2 undef=.pointer (some ⟨b+1,0,none⟩)) :
  ObsE Try.prog rn1_ops.toArray Q (est2 8 0 (fun k=>k=b+1) (fun _=>False)) rn1_C (rn1_F w0 b k n gb off m c g0 B0 xk0 xn0 A0 m0 c0 f0 ) a0 w0 rn1_ops.toArray.toList 0:=by
 have nw1:=rn1_nw1
 have nw2:=rn1_nw2
 refine ⟨?_,?_,?_,?_,?_,?_,?_,?_,?_,trivial⟩
 ·refine ⟨⟨fun τ=>stableE_det _,leans_not⟩,?_⟩
  intro a w O hk
  have e1:a.eval (.tmp 1)=.pointer (some ⟨b,0,none⟩):=(hk.init 1 (initialB_of_nw nw1)).trans hi1
  exact obE_run (wanted_none rfl) (by unfold execOp;simp only [];rw [e1];go_simp) rfl
 ·refine ⟨⟨fun τ=>stableE_det _,leans_not⟩,?_⟩
  intro a w O hk
  have e32:a.eval (.tmp 32)=.pointer (some ⟨b,2,none⟩):=hk.fact 0 _ 32 rfl rfl rfl rfl
  have x2:=hk.world.still hx2 (fun ⟨_,h⟩=>h.elim (fun h=>by have:b=b+1:=h.2;omega) (fun h=>h.2))
  obtain ⟨p0,p1,p2,-,-,-⟩:=row3 x2
  have hfx:∀ k,k<b→w.heap[k]?=w0.heap[k]?:=fun k hkb=>hk.fix k (est2_fix (by have:=blk_lt hx2;omega) (fun h=>by omega) (fun h=>h))
  have hcc:∀ j,w.cell? ⟨gb,j,none⟩=w0.cell? ⟨gb,j,none⟩:=fun j=>cell_same (hfx _ hgb)
  have q0:=(hcc _).trans hc0
  have q1:=(hcc _).trans hc1
  have q2:=(hcc _).trans hc2
  exact obE_run (wanted_none rfl) (by unfold execOp;simp only [];rw [e32];go_simp) rfl
 ·refine ⟨⟨fun τ=>stableE_det _,leans_not⟩,?_⟩
  intro a w O hk
  have e33:a.eval (.tmp 33)=.slice (some ⟨gb,off,none⟩) m c:=hk.fact 1 _ 33 rfl rfl rfl rfl
  have x2:=hk.world.still hx2 (fun ⟨_,h⟩=>h.elim (fun h=>by have:b=b+1:=h.2;omega) (fun h=>h.2))
  obtain ⟨p0,p1,p2,-,-,-⟩:=row3 x2
  have hfx:∀ k,k<b→w.heap[k]?=w0.heap[k]?:=fun k hkb=>hk.fix k (est2_fix (by have:=blk_lt hx2;omega) (fun h=>by omega) (fun h=>h))
  have hcc:∀ j,w.cell? ⟨gb,j,none⟩=w0.cell? ⟨gb,j,none⟩:=fun j=>cell_same (hfx _ hgb)
  have q0:=(hcc _).trans hc0
  have q1:=(hcc _).trans hc1
  have q2:=(hcc _).trans hc2
  exact obE_run (wanted_none rfl) (by unfold execOp;simp only [];rw [e33];go_simp) rfl
 ·refine ⟨⟨fun τ=>stableE_det _,leans_not⟩,?_⟩
  intro a w O hk
  have e34:a.eval (.tmp 34)=.pointer (some ⟨gb,off,none⟩):=hk.fact 2 _ 34 rfl rfl rfl rfl
  have x2:=hk.world.still hx2 (fun ⟨_,h⟩=>h.elim (fun h=>by have:b=b+1:=h.2;omega) (fun h=>h.2))
  obtain ⟨p0,p1,p2,-,-,-⟩:=row3 x2
  have hfx:∀ k,k<b→w.heap[k]?=w0.heap[k]?:=fun k hkb=>hk.fix k (est2_fix (by have:=blk_lt hx2;omega) (fun h=>by omega) (fun h=>h))
  have hcc:∀ j,w.cell? ⟨gb,j,none⟩=w0.cell? ⟨gb,j,none⟩:=fun j=>cell_same (hfx _ hgb)
  have q0:=(hcc _).trans hc0
  have q1:=(hcc _).trans hc1
  have q2:=(hcc _).trans hc2
  exact obE_run (wanted_none rfl) (by unfold execOp;simp only [];rw [e34];go_simp) rfl
 ·refine ⟨⟨fun τ=>stableE_nf (fun k hk'=>hk'.elim),leans_not⟩,?_⟩
  intro a w O hk
  have e35:a.eval (.tmp 35)=.agg #[.int .i64 xk0,.int .i64 xn0,.slice A0 m0 c0]:=hk.fact 3 _ 35 rfl rfl rfl rfl
  have x2:=hk.world.still hx2 (fun ⟨_,h⟩=>h.elim (fun h=>by have:b=b+1:=h.2;omega) (fun h=>h.2))
  obtain ⟨p0,p1,p2,-,-,-⟩:=row3 x2
  have hfx:∀ k,k<b→w.heap[k]?=w0.heap[k]?:=fun k hkb=>hk.fix k (est2_fix (by have:=blk_lt hx2;omega) (fun h=>by omega) (fun h=>h))
  have hcc:∀ j,w.cell? ⟨gb,j,none⟩=w0.cell? ⟨gb,j,none⟩:=fun j=>cell_same (hfx _ hgb)
  have q0:=(hcc _).trans hc0
  have q1:=(hcc _).trans hc1
  have q2:=(hcc _).trans hc2
  refine obE_callNew #[.agg #[.int .i64 xk0,.int .i64 xn0,.slice A0 m0 c0]] rfl rfl rfl rfl (by simp only [List.map_cons,List.map_nil];rw [e35]) (wanted_none rfl) ((hof0 w hfx hk.world.size).mono ?_)
  intro e w' h
  exact NfV.of_got h
 ·refine ⟨⟨fun τ=>stableE_det _,leans_not⟩,?_⟩
  intro a w O hk
  have e1:a.eval (.tmp 1)=.pointer (some ⟨b,0,none⟩):=(hk.init 1 (initialB_of_nw nw1)).trans hi1
  exact obE_run (wanted_none rfl) (by unfold execOp;simp only [];rw [e1];go_simp) rfl
 ·refine ⟨⟨fun τ=>stableE_det _,leans_not⟩,?_⟩
  intro a w O hk
  have e37:a.eval (.tmp 37)=.pointer (some ⟨b,1,none⟩):=hk.fact 5 _ 37 rfl rfl rfl rfl
  have x2:=hk.world.still hx2 (fun ⟨_,h⟩=>h.elim (fun h=>by have:b=b+1:=h.2;omega) (fun h=>h.2))
  obtain ⟨p0,p1,p2,-,-,-⟩:=row3 x2
  have hfx:∀ k,k<b→w.heap[k]?=w0.heap[k]?:=fun k hkb=>hk.fix k (est2_fix (by have:=blk_lt hx2;omega) (fun h=>by omega) (fun h=>h))
  have hcc:∀ j,w.cell? ⟨gb,j,none⟩=w0.cell? ⟨gb,j,none⟩:=fun j=>cell_same (hfx _ hgb)
  have q0:=(hcc _).trans hc0
  have q1:=(hcc _).trans hc1
  have q2:=(hcc _).trans hc2
  exact obE_run (wanted_none rfl) (by unfold execOp;simp only [];rw [e37];go_simp) rfl
 ·refine ⟨⟨fun τ=>stableE_nf (fun k hk'=>hk'.elim),leans_not⟩,?_⟩
  intro a w O hk
  have f36:=hk.fact 4 _ 36 rfl rfl rfl rfl
  have g36:=hk.owns 4 rfl rfl
  have e38:a.eval (.tmp 38)=.int .i64 n:=hk.fact 6 _ 38 rfl rfl rfl rfl
  have x2:=hk.world.still hx2 (fun ⟨_,h⟩=>h.elim (fun h=>by have:b=b+1:=h.2;omega) (fun h=>h.2))
  obtain ⟨p0,p1,p2,-,-,-⟩:=row3 x2
  have hfx:∀ k,k<b→w.heap[k]?=w0.heap[k]?:=fun k hkb=>hk.fix k (est2_fix (by have:=blk_lt hx2;omega) (fun h=>by omega) (fun h=>h))
  have hcc:∀ j,w.cell? ⟨gb,j,none⟩=w0.cell? ⟨gb,j,none⟩:=fun j=>cell_same (hfx _ hgb)
  have q0:=(hcc _).trans hc0
  have q1:=(hcc _).trans hc1
  have q2:=(hcc _).trans hc2
  obtain ⟨A,n',cap,e36,h1,h2⟩:=f36
  have hln:=h2.1.1
  have hok:=hf0
  refine obE_callNew #[.agg #[.int .i64 f0.1,.slice A n' cap],.int .i64 n] rfl rfl rfl rfl (by simp only [List.map_cons,List.map_nil];rw [e38,show a.eval (.tmp 36)=_ from e36]) (wanted_none rfl) ((refPlus_calls A n' cap f0.1 n f0.2 w h2.1 hok.1 hok.2.1 hn0 hn1 hok.2.2.1 (by have:=hok.2.2.2;omega)).mono ?_)
  intro e w' h
  exact NfV.of_got h
 ·refine ⟨⟨fun τ=>stableE_nfboxF,leans_not⟩,?_⟩
  intro a w O hk
  have e2:a.eval (.tmp 2)=.pointer (some ⟨b+1,0,none⟩):=(hk.init 2 (initialB_of_nw nw2)).trans hi2
  have f39:=hk.fact 7 _ 39 rfl rfl rfl rfl
  have g39:=hk.owns 7 rfl rfl
  have x2:=hk.world.still hx2 (fun ⟨_,h⟩=>h.elim (fun h=>by have:b=b+1:=h.2;omega) (fun h=>h.2))
  obtain ⟨p0,p1,p2,-,-,-⟩:=row3 x2
  have hfx:∀ k,k<b→w.heap[k]?=w0.heap[k]?:=fun k hkb=>hk.fix k (est2_fix (by have:=blk_lt hx2;omega) (fun h=>by omega) (fun h=>h))
  have hcc:∀ j,w.cell? ⟨gb,j,none⟩=w0.cell? ⟨gb,j,none⟩:=fun j=>cell_same (hfx _ hgb)
  have q0:=(hcc _).trans hc0
  have q1:=(hcc _).trans hc1
  have q2:=(hcc _).trans hc2
  have x4:=(hk.est 8 _ rfl (.inl rfl) (b+1) (.inl ⟨rfl,rfl⟩)).trans hx4
  obtain ⟨z0,z1,y0,y1⟩:=row2 x4
  obtain ⟨A,n',cap,e39,h1,h2⟩:=f39
  refine obE_store (w':=(w.setCell ⟨b+1,0,none⟩ (.int .i64 (shortN (plusR n f0)).1)).setCell ⟨b+1,1,none⟩ (.slice A n' cap)) (fun k=>k=b+1∨O 7 k) (wanted_none rfl) (by unfold execOp;simp only [];rw [e2,show a.eval (.tmp 39)=_ from e39];go_simp) ((chg_set2 w (b+1) _ _).mono fun k h=>.inr (.inl ⟨rfl,h⟩)) ?_ (fun k h=>.inl ?_)
  ·exact ⟨A,n',cap,set2 x4,.inl rfl,h1,(h2.same fun k hk' hz=>(chg_set2 w (b+1) _ _).block k hz (fun h=>hk'.elim id fun h'=>hk.away 8 7 _ rfl (.inl rfl) rfl rfl (b+1) (.inl ⟨rfl,rfl⟩) (h ▸ h'))).mono fun k hk' _=>hk'.elim False.elim fun h'=>⟨.inr h',fun h=>hk.away 8 7 _ rfl (.inl rfl) rfl rfl (b+1) (.inl ⟨rfl,rfl⟩) (h ▸ h')⟩⟩
  ·exact h.elim (fun h=>.inr (.inl ⟨rfl,h⟩)) fun h=>.inl ⟨7,by simp [rn1_C],h⟩
set_option maxRecDepth 100000 in
set_option maxHeartbeats 8000000 in
theorem rn1_region {Q:Exit→Act→World→Prop} {id:Nat} (w0:World) (b:Nat) (k n:Int) (gb off m c:Nat) (g0 B0:Value) (xk0 xn0:Int) (A0:Option Addr) (m0 c0:Nat) (f0:Nf)  {s0 s3 s4 s5 s6 s7 s8 s9 s10 s11 s12 s13 s14 s15 s16 s17 s18 s19 s20 s21 s22 s23 s24 s25 s26 s27 s28 s29 s30 s31 s32 s33 s34 s35 s36 s37 s38 s39 s40 s41 s42 s43 s44 s45 s46 s47 s48 s49 s50:Value} (hx2:w0.heap[b]?=some (.cells #[.int .i64 k,.int .i64 n,.slice (some ⟨gb,off,none⟩) m c] 25 (0,0))) (hx4:w0.heap[b+1]?=some (.cells #[g0,B0] 86 (0,0))) (hgb:gb<b) (hc0:w0.cell? ⟨gb,off,none⟩=some (.int .i64 xk0)) (hc1:w0.cell? ⟨gb,off+1,none⟩=some (.int .i64 xn0)) (hc2:w0.cell? ⟨gb,off+2,none⟩=some (.slice A0 m0 c0)) (hof0:∀ w,(∀ k,k<b→w.heap[k]?=w0.heap[k]?)→w0.heap.size≤w.heap.size→Calls Try.prog 90 #[.agg #[.int .i64 xk0,.int .i64 xn0,.slice A0 m0 c0]] w (NfGot w (fun _=>False) f0)) (hm:0<m) (hn0:0≤n) (hn1:n≤1099511627776) (hf0:NfOk f0)
  (hend:∀ (w':World) (u36:Value) (u39:Value) (O4:Nat→Prop) (v8:Value) (O8:Nat→Prop),Chg (fun k=>(fun k=>k=b+1) k∨(fun _=>False) k) w0 w'→(NfV (fun _=>False) f0 u36 w' O4)→(∀ k,O4 k→k<w'.heap.size∧¬ Fix w0 (est2 8 0 (fun k=>k=b+1) (fun _=>False)) k)→(NfBoxF (b+1) (shortN (plusR n f0)) w' O8)→(∀ k,O8 k→k<w'.heap.size∧¬ Fix w0 (est2 8 0 (fun k=>k=b+1) (fun _=>False)) k)→Q .normal { tmps:=(s0 :: (.pointer (some ⟨b,0,none⟩)) :: (.pointer (some ⟨b+1,0,none⟩)) :: s3 :: s4 :: s5 :: s6 :: s7 :: s8 :: s9 :: s10 :: s11 :: s12 :: s13 :: s14 :: s15 :: s16 :: s17 :: s18 :: s19 :: s20 :: s21 :: s22 :: s23 :: s24 :: s25 :: s26 :: s27 :: s28 :: s29 :: s30 :: s31 :: (.pointer (some ⟨b,2,none⟩)) :: (.slice (some ⟨gb,off,none⟩) m c) :: (.pointer (some ⟨gb,off,none⟩)) :: (.agg #[.int .i64 xk0,.int .i64 xn0,.slice A0 m0 c0]) :: u36 :: (.pointer (some ⟨b,1,none⟩)) :: (.int .i64 n) :: u39 :: s40 :: s41 :: s42 :: s43 :: s44 :: s45 :: s46 :: s47 :: s48 :: s49 :: s50 :: []:List Value).toArray,defers:=[] } w') :
  (Code.region id rn1_ops.toArray true).wp Try.prog Q { tmps:=(s0 :: (.pointer (some ⟨b,0,none⟩)) :: (.pointer (some ⟨b+1,0,none⟩)) :: s3 :: s4 :: s5 :: s6 :: s7 :: s8 :: s9 :: s10 :: s11 :: s12 :: s13 :: s14 :: s15 :: s16 :: s17 :: s18 :: s19 :: s20 :: s21 :: s22 :: s23 :: s24 :: s25 :: s26 :: s27 :: s28 :: s29 :: s30 :: s31 :: s32 :: s33 :: s34 :: s35 :: s36 :: s37 :: s38 :: s39 :: s40 :: s41 :: s42 :: s43 :: s44 :: s45 :: s46 :: s47 :: s48 :: s49 :: s50 :: []:List Value).toArray,defers:=[] } w0:=by
 refine wp_region_est (by kernel_rfl) (est2 8 0 (fun k=>k=b+1) (fun _=>False)) rn1_C (rn1_F w0 b k n gb off m c g0 B0 xk0 xn0 A0 m0 c0 f0 ) (est2_dis (fun k h1 h2=>h2)) (est2_range (fun k h=>by have:=blk_lt hx4;omega) (fun k h=>h.elim)) (by rfl) (by kernel_rfl) (rn1_obs w0.drew b k n gb off m c g0 B0 xk0 xn0 A0 m0 c0 f0  hx2 hx4 hgb hc0 hc1 hc2 hof0 hm hn0 hn1 hf0 _ _ rfl rfl) ?_
 intro a w' O hd hs hb hf hf2 ha hsame
 have hl:=slots_eq (ops:=rn1_ops.toArray) [(32,.pointer (some ⟨b,2,none⟩)),(33,.slice (some ⟨gb,off,none⟩) m c),(34,.pointer (some ⟨gb,off,none⟩)),(35,.agg #[.int .i64 xk0,.int .i64 xn0,.slice A0 m0 c0]),(36,a.tmps.getD 36 undef),(37,.pointer (some ⟨b,1,none⟩)),(38,.int .i64 n),(39,a.tmps.getD 39 undef)] (show a.tmps.size=51 from hs) (fun i h=>hsame i h) ⟨(hf 0 _ 32 rfl rfl (by decide)).1,(hf 1 _ 33 rfl rfl (by decide)).1,(hf 2 _ 34 rfl rfl (by decide)).1,(hf 3 _ 35 rfl rfl (by decide)).1,rfl,(hf 5 _ 37 rfl rfl (by decide)).1,(hf 6 _ 38 rfl rfl (by decide)).1,rfl,trivial⟩ (by kernel_rfl)
 obtain ⟨tmps,defers⟩:=a
 obtain rfl:defers=[]:=hd
 have hl':tmps=_:=hl
 rw [hl']
 obtain ⟨⟨v8,hv8⟩,ho8⟩:=hf2 8 _ rfl rfl (by decide)
 have hb':=est2_chg hb
 refine Eq.mp ?_ (hend w' (tmps.getD 36 undef) (tmps.getD 39 undef) (O 4) v8 (O 8) ⟨hb'.os,hb'.tape,hb'.output,hb'.size,hb'.block⟩ (hf 4 _ 36 rfl rfl (by decide)).1 (hf 4 _ 36 rfl rfl (by decide)).2 hv8 ho8)
 kernel_rfl

def rn2_ops:List Oper:=[
 { dst:=some 40,op:=Go.Op.fieldAddr 25 (Go.Operand.tmp 1) 2,type:=0,pos:= "ref.go:139",after:=#[],guard:=none },
 { dst:=some 41,op:=Go.Op.load 23 (Go.Operand.tmp 40),type:=23,pos:= "ref.go:139",after:=#[{ on:=0,ground:=Go.Ground.data }],guard:=none },
 { dst:=some 42,op:=Go.Op.indexAddr 23 (Go.Operand.tmp 41) (Go.Operand.const (Go.Value.int Go.IntKind.i64 0)),type:=0,pos:= "ref.go:139",after:=#[{ on:=1,ground:=Go.Ground.data }],guard:=none },
 { dst:=some 43,op:=Go.Op.load 25 (Go.Operand.tmp 42),type:=25,pos:= "ref.go:139",after:=#[{ on:=2,ground:=Go.Ground.data }],guard:=none },
 { dst:=some 44,op:=Go.Op.call { callee:=Go.Callee.value (Go.Operand.func 90),args:=#[Go.Operand.tmp 43],argTypes:=#[25] },type:=86,pos:= "ref.go:139",after:=#[{ on:=3,ground:=Go.Ground.data }],guard:=none },
 { dst:=some 45,op:=Go.Op.fieldAddr 25 (Go.Operand.tmp 1) 2,type:=0,pos:= "ref.go:139",after:=#[],guard:=none },
 { dst:=some 46,op:=Go.Op.load 23 (Go.Operand.tmp 45),type:=23,pos:= "ref.go:139",after:=#[{ on:=5,ground:=Go.Ground.data }],guard:=none },
 { dst:=some 47,op:=Go.Op.indexAddr 23 (Go.Operand.tmp 46) (Go.Operand.const (Go.Value.int Go.IntKind.i64 1)),type:=0,pos:= "ref.go:139",after:=#[{ on:=6,ground:=Go.Ground.data }],guard:=none },
 { dst:=some 48,op:=Go.Op.load 25 (Go.Operand.tmp 47),type:=25,pos:= "ref.go:139",after:=#[{ on:=7,ground:=Go.Ground.data }],guard:=none },
 { dst:=some 49,op:=Go.Op.call { callee:=Go.Callee.value (Go.Operand.func 90),args:=#[Go.Operand.tmp 48],argTypes:=#[25] },type:=86,pos:= "ref.go:139",after:=#[{ on:=8,ground:=Go.Ground.data },{ on:=4,ground:=Go.Ground.chain }],guard:=none },
 { dst:=some 50,op:=Go.Op.call { callee:=Go.Callee.value (Go.Operand.func 91),args:=#[Go.Operand.tmp 44,Go.Operand.tmp 49],argTypes:=#[86,86] },type:=86,pos:= "ref.go:139",after:=#[{ on:=4,ground:=Go.Ground.data },{ on:=9,ground:=Go.Ground.data },{ on:=9,ground:=Go.Ground.chain }],guard:=none },
 { dst:=none,op:=Go.Op.store 86 (Go.Operand.tmp 2) (Go.Operand.tmp 50),type:=0,pos:= "ref.go:139",after:=#[{ on:=10,ground:=Go.Ground.data },{ on:=10,ground:=Go.Ground.chain },{ on:=0,ground:=Go.Ground.phase },{ on:=1,ground:=Go.Ground.phase },{ on:=2,ground:=Go.Ground.phase },{ on:=3,ground:=Go.Ground.phase },{ on:=4,ground:=Go.Ground.phase },{ on:=5,ground:=Go.Ground.phase },{ on:=6,ground:=Go.Ground.phase },{ on:=7,ground:=Go.Ground.phase },{ on:=8,ground:=Go.Ground.phase },{ on:=9,ground:=Go.Ground.phase },{ on:=10,ground:=Go.Ground.phase }],guard:=none }]
def rn2_F (w0:World) (b:Nat) (k n:Int) (gb off c:Nat) (g0 B0:Value) (xk0 xn0:Int) (A0:Option Addr) (m0 c0:Nat) (f0:Nf) (xk1 xn1:Int) (A1:Option Addr) (m1 c1:Nat) (f1:Nf)  : Nat→(Nat→Value)→Value→World→(Nat→Prop)→Prop:=fun rix=>match rix with
 | 0=>fun _ v _ _=>v=.pointer (some ⟨b,2,none⟩)
 | 1=>fun _ v _ _=>v=.slice (some ⟨gb,off,none⟩) 2 c
 | 2=>fun _ v _ _=>v=.pointer (some ⟨gb,off,none⟩)
 | 3=>fun _ v _ _=>v=.agg #[.int .i64 xk0,.int .i64 xn0,.slice A0 m0 c0]
 | 4=>fun τ v w O=>NfV (fun _=>False) f0 v w O
 | 5=>fun _ v _ _=>v=.pointer (some ⟨b,2,none⟩)
 | 6=>fun _ v _ _=>v=.slice (some ⟨gb,off,none⟩) 2 c
 | 7=>fun _ v _ _=>v=.pointer (some ⟨gb,off+3,none⟩)
 | 8=>fun _ v _ _=>v=.agg #[.int .i64 xk1,.int .i64 xn1,.slice A1 m1 c1]
 | 9=>fun τ v w O=>NfV (fun _=>False) f1 v w O
 | 10=>fun τ v w O=>NfV (fun _=>False) (shortN (orN f0 f1)) v w O
 | 11=>fun τ v w O=>NfBoxF (b+1) (shortN (orN f0 f1)) w O
 | _=>fun _ _ _ _=>True
def rn2_C:Nat→List Nat:=fun rix=>match rix with
 | 11=>[10]
 | _=>[]
theorem rn2_nw1:nwB rn2_ops.toArray 1=true:=by kernel_rfl
theorem rn2_nw2:nwB rn2_ops.toArray 2=true:=by kernel_rfl
set_option maxRecDepth 100000 in
set_option maxHeartbeats 8000000 in
theorem rn2_obs (w0:World) (b:Nat) (k n:Int) (gb off c:Nat) (g0 B0:Value) (xk0 xn0:Int) (A0:Option Addr) (m0 c0:Nat) (f0:Nf) (xk1 xn1:Int) (A1:Option Addr) (m1 c1:Nat) (f1:Nf)  (hx2:w0.heap[b]?=some (.cells #[.int .i64 k,.int .i64 n,.slice (some ⟨gb,off,none⟩) 2 c] 25 (0,0))) (hx4:w0.heap[b+1]?=some (.cells #[g0,B0] 86 (0,0))) (hgb:gb<b) (hc0:w0.cell? ⟨gb,off,none⟩=some (.int .i64 xk0)) (hc1:w0.cell? ⟨gb,off+1,none⟩=some (.int .i64 xn0)) (hc2:w0.cell? ⟨gb,off+2,none⟩=some (.slice A0 m0 c0)) (hc3:w0.cell? ⟨gb,off+3,none⟩=some (.int .i64 xk1)) (hc4:w0.cell? ⟨gb,off+4,none⟩=some (.int .i64 xn1)) (hc5:w0.cell? ⟨gb,off+5,none⟩=some (.slice A1 m1 c1)) (hof0:∀ w,(∀ k,k<b→w.heap[k]?=w0.heap[k]?)→w0.heap.size≤w.heap.size→Calls Try.prog 90 #[.agg #[.int .i64 xk0,.int .i64 xn0,.slice A0 m0 c0]] w (NfGot w (fun _=>False) f0)) (hof1:∀ w,(∀ k,k<b→w.heap[k]?=w0.heap[k]?)→w0.heap.size≤w.heap.size→Calls Try.prog 90 #[.agg #[.int .i64 xk1,.int .i64 xn1,.slice A1 m1 c1]] w (NfGot w (fun _=>False) f1)) (hf0:NfOk f0) (hf1:NfOk f1) (Q:Exit→Act→World→Prop) (a0:Act) (hi1:a0.tmps.getD 1 undef=.pointer (some ⟨b,0,none⟩)) (hi2:a0.tmps.getD 2 undef=.pointer (some ⟨b+1,0,none⟩)) :
  ObsE Try.prog rn2_ops.toArray Q (est2 11 0 (fun k=>k=b+1) (fun _=>False)) rn2_C (rn2_F w0 b k n gb off c g0 B0 xk0 xn0 A0 m0 c0 f0 xk1 xn1 A1 m1 c1 f1 ) a0 w0 rn2_ops.toArray.toList 0:=by
 have nw1:=rn2_nw1
 have nw2:=rn2_nw2
 refine ⟨?_,?_,?_,?_,?_,?_,?_,?_,?_,?_,?_,?_,trivial⟩
 ·refine ⟨⟨fun τ=>stableE_det _,leans_not⟩,?_⟩
  intro a w O hk
  have e1:a.eval (.tmp 1)=.pointer (some ⟨b,0,none⟩):=(hk.init 1 (initialB_of_nw nw1)).trans hi1
  exact obE_run (wanted_none rfl) (by unfold execOp;simp only [];rw [e1];go_simp) rfl
 ·refine ⟨⟨fun τ=>stableE_det _,leans_not⟩,?_⟩
  intro a w O hk
  have e40:a.eval (.tmp 40)=.pointer (some ⟨b,2,none⟩):=hk.fact 0 _ 40 rfl rfl rfl rfl
  have x2:=hk.world.still hx2 (fun ⟨_,h⟩=>h.elim (fun h=>by have:b=b+1:=h.2;omega) (fun h=>h.2))
  obtain ⟨p0,p1,p2,-,-,-⟩:=row3 x2
  have hfx:∀ k,k<b→w.heap[k]?=w0.heap[k]?:=fun k hkb=>hk.fix k (est2_fix (by have:=blk_lt hx2;omega) (fun h=>by omega) (fun h=>h))
  have hcc:∀ j,w.cell? ⟨gb,j,none⟩=w0.cell? ⟨gb,j,none⟩:=fun j=>cell_same (hfx _ hgb)
  have q0:=(hcc _).trans hc0
  have q1:=(hcc _).trans hc1
  have q2:=(hcc _).trans hc2
  have q3:=(hcc _).trans hc3
  have q4:=(hcc _).trans hc4
  have q5:=(hcc _).trans hc5
  exact obE_run (wanted_none rfl) (by unfold execOp;simp only [];rw [e40];go_simp) rfl
 ·refine ⟨⟨fun τ=>stableE_det _,leans_not⟩,?_⟩
  intro a w O hk
  have e41:a.eval (.tmp 41)=.slice (some ⟨gb,off,none⟩) 2 c:=hk.fact 1 _ 41 rfl rfl rfl rfl
  have x2:=hk.world.still hx2 (fun ⟨_,h⟩=>h.elim (fun h=>by have:b=b+1:=h.2;omega) (fun h=>h.2))
  obtain ⟨p0,p1,p2,-,-,-⟩:=row3 x2
  have hfx:∀ k,k<b→w.heap[k]?=w0.heap[k]?:=fun k hkb=>hk.fix k (est2_fix (by have:=blk_lt hx2;omega) (fun h=>by omega) (fun h=>h))
  have hcc:∀ j,w.cell? ⟨gb,j,none⟩=w0.cell? ⟨gb,j,none⟩:=fun j=>cell_same (hfx _ hgb)
  have q0:=(hcc _).trans hc0
  have q1:=(hcc _).trans hc1
  have q2:=(hcc _).trans hc2
  have q3:=(hcc _).trans hc3
  have q4:=(hcc _).trans hc4
  have q5:=(hcc _).trans hc5
  exact obE_run (wanted_none rfl) (by unfold execOp;simp only [];rw [e41];go_simp) rfl
 ·refine ⟨⟨fun τ=>stableE_det _,leans_not⟩,?_⟩
  intro a w O hk
  have e42:a.eval (.tmp 42)=.pointer (some ⟨gb,off,none⟩):=hk.fact 2 _ 42 rfl rfl rfl rfl
  have x2:=hk.world.still hx2 (fun ⟨_,h⟩=>h.elim (fun h=>by have:b=b+1:=h.2;omega) (fun h=>h.2))
  obtain ⟨p0,p1,p2,-,-,-⟩:=row3 x2
  have hfx:∀ k,k<b→w.heap[k]?=w0.heap[k]?:=fun k hkb=>hk.fix k (est2_fix (by have:=blk_lt hx2;omega) (fun h=>by omega) (fun h=>h))
  have hcc:∀ j,w.cell? ⟨gb,j,none⟩=w0.cell? ⟨gb,j,none⟩:=fun j=>cell_same (hfx _ hgb)
  have q0:=(hcc _).trans hc0
  have q1:=(hcc _).trans hc1
  have q2:=(hcc _).trans hc2
  have q3:=(hcc _).trans hc3
  have q4:=(hcc _).trans hc4
  have q5:=(hcc _).trans hc5
  exact obE_run (wanted_none rfl) (by unfold execOp;simp only [];rw [e42];go_simp) rfl
 ·refine ⟨⟨fun τ=>stableE_nf (fun k hk'=>hk'.elim),leans_not⟩,?_⟩
  intro a w O hk
  have e43:a.eval (.tmp 43)=.agg #[.int .i64 xk0,.int .i64 xn0,.slice A0 m0 c0]:=hk.fact 3 _ 43 rfl rfl rfl rfl
  have x2:=hk.world.still hx2 (fun ⟨_,h⟩=>h.elim (fun h=>by have:b=b+1:=h.2;omega) (fun h=>h.2))
  obtain ⟨p0,p1,p2,-,-,-⟩:=row3 x2
  have hfx:∀ k,k<b→w.heap[k]?=w0.heap[k]?:=fun k hkb=>hk.fix k (est2_fix (by have:=blk_lt hx2;omega) (fun h=>by omega) (fun h=>h))
  have hcc:∀ j,w.cell? ⟨gb,j,none⟩=w0.cell? ⟨gb,j,none⟩:=fun j=>cell_same (hfx _ hgb)
  have q0:=(hcc _).trans hc0
  have q1:=(hcc _).trans hc1
  have q2:=(hcc _).trans hc2
  have q3:=(hcc _).trans hc3
  have q4:=(hcc _).trans hc4
  have q5:=(hcc _).trans hc5
  refine obE_callNew #[.agg #[.int .i64 xk0,.int .i64 xn0,.slice A0 m0 c0]] rfl rfl rfl rfl (by simp only [List.map_cons,List.map_nil];rw [e43]) (wanted_none rfl) ((hof0 w hfx hk.world.size).mono ?_)
  intro e w' h
  exact NfV.of_got h
 ·refine ⟨⟨fun τ=>stableE_det _,leans_not⟩,?_⟩
  intro a w O hk
  have e1:a.eval (.tmp 1)=.pointer (some ⟨b,0,none⟩):=(hk.init 1 (initialB_of_nw nw1)).trans hi1
  exact obE_run (wanted_none rfl) (by unfold execOp;simp only [];rw [e1];go_simp) rfl
 ·refine ⟨⟨fun τ=>stableE_det _,leans_not⟩,?_⟩
  intro a w O hk
  have e45:a.eval (.tmp 45)=.pointer (some ⟨b,2,none⟩):=hk.fact 5 _ 45 rfl rfl rfl rfl
  have x2:=hk.world.still hx2 (fun ⟨_,h⟩=>h.elim (fun h=>by have:b=b+1:=h.2;omega) (fun h=>h.2))
  obtain ⟨p0,p1,p2,-,-,-⟩:=row3 x2
  have hfx:∀ k,k<b→w.heap[k]?=w0.heap[k]?:=fun k hkb=>hk.fix k (est2_fix (by have:=blk_lt hx2;omega) (fun h=>by omega) (fun h=>h))
  have hcc:∀ j,w.cell? ⟨gb,j,none⟩=w0.cell? ⟨gb,j,none⟩:=fun j=>cell_same (hfx _ hgb)
  have q0:=(hcc _).trans hc0
  have q1:=(hcc _).trans hc1
  have q2:=(hcc _).trans hc2
  have q3:=(hcc _).trans hc3
  have q4:=(hcc _).trans hc4
  have q5:=(hcc _).trans hc5
  exact obE_run (wanted_none rfl) (by unfold execOp;simp only [];rw [e45];go_simp) rfl
 ·refine ⟨⟨fun τ=>stableE_det _,leans_not⟩,?_⟩
  intro a w O hk
  have e46:a.eval (.tmp 46)=.slice (some ⟨gb,off,none⟩) 2 c:=hk.fact 6 _ 46 rfl rfl rfl rfl
  have x2:=hk.world.still hx2 (fun ⟨_,h⟩=>h.elim (fun h=>by have:b=b+1:=h.2;omega) (fun h=>h.2))
  obtain ⟨p0,p1,p2,-,-,-⟩:=row3 x2
  have hfx:∀ k,k<b→w.heap[k]?=w0.heap[k]?:=fun k hkb=>hk.fix k (est2_fix (by have:=blk_lt hx2;omega) (fun h=>by omega) (fun h=>h))
  have hcc:∀ j,w.cell? ⟨gb,j,none⟩=w0.cell? ⟨gb,j,none⟩:=fun j=>cell_same (hfx _ hgb)
  have q0:=(hcc _).trans hc0
  have q1:=(hcc _).trans hc1
  have q2:=(hcc _).trans hc2
  have q3:=(hcc _).trans hc3
  have q4:=(hcc _).trans hc4
  have q5:=(hcc _).trans hc5
  exact obE_run (wanted_none rfl) (by unfold execOp;simp only [];rw [e46];go_simp) rfl
 ·refine ⟨⟨fun τ=>stableE_det _,leans_not⟩,?_⟩
  intro a w O hk
  have e47:a.eval (.tmp 47)=.pointer (some ⟨gb,off+3,none⟩):=hk.fact 7 _ 47 rfl rfl rfl rfl
  have x2:=hk.world.still hx2 (fun ⟨_,h⟩=>h.elim (fun h=>by have:b=b+1:=h.2;omega) (fun h=>h.2))
  obtain ⟨p0,p1,p2,-,-,-⟩:=row3 x2
  have hfx:∀ k,k<b→w.heap[k]?=w0.heap[k]?:=fun k hkb=>hk.fix k (est2_fix (by have:=blk_lt hx2;omega) (fun h=>by omega) (fun h=>h))
  have hcc:∀ j,w.cell? ⟨gb,j,none⟩=w0.cell? ⟨gb,j,none⟩:=fun j=>cell_same (hfx _ hgb)
  have q0:=(hcc _).trans hc0
  have q1:=(hcc _).trans hc1
  have q2:=(hcc _).trans hc2
  have q3:=(hcc _).trans hc3
  have q4:=(hcc _).trans hc4
  have q5:=(hcc _).trans hc5
  exact obE_run (wanted_none rfl) (by unfold execOp;simp only [];rw [e47];go_simp) rfl
 ·refine ⟨⟨fun τ=>stableE_nf (fun k hk'=>hk'.elim),leans_not⟩,?_⟩
  intro a w O hk
  have e48:a.eval (.tmp 48)=.agg #[.int .i64 xk1,.int .i64 xn1,.slice A1 m1 c1]:=hk.fact 8 _ 48 rfl rfl rfl rfl
  have x2:=hk.world.still hx2 (fun ⟨_,h⟩=>h.elim (fun h=>by have:b=b+1:=h.2;omega) (fun h=>h.2))
  obtain ⟨p0,p1,p2,-,-,-⟩:=row3 x2
  have hfx:∀ k,k<b→w.heap[k]?=w0.heap[k]?:=fun k hkb=>hk.fix k (est2_fix (by have:=blk_lt hx2;omega) (fun h=>by omega) (fun h=>h))
  have hcc:∀ j,w.cell? ⟨gb,j,none⟩=w0.cell? ⟨gb,j,none⟩:=fun j=>cell_same (hfx _ hgb)
  have q0:=(hcc _).trans hc0
  have q1:=(hcc _).trans hc1
  have q2:=(hcc _).trans hc2
  have q3:=(hcc _).trans hc3
  have q4:=(hcc _).trans hc4
  have q5:=(hcc _).trans hc5
  refine obE_callNew #[.agg #[.int .i64 xk1,.int .i64 xn1,.slice A1 m1 c1]] rfl rfl rfl rfl (by simp only [List.map_cons,List.map_nil];rw [e48]) (wanted_none rfl) ((hof1 w hfx hk.world.size).mono ?_)
  intro e w' h
  exact NfV.of_got h
 ·refine ⟨⟨fun τ=>stableE_nf (fun k hk'=>hk'.elim),leans_not⟩,?_⟩
  intro a w O hk
  have f44:=hk.fact 4 _ 44 rfl rfl rfl rfl
  have g44:=hk.owns 4 rfl rfl
  have f49:=hk.fact 9 _ 49 rfl rfl rfl rfl
  have g49:=hk.owns 9 rfl rfl
  have x2:=hk.world.still hx2 (fun ⟨_,h⟩=>h.elim (fun h=>by have:b=b+1:=h.2;omega) (fun h=>h.2))
  obtain ⟨p0,p1,p2,-,-,-⟩:=row3 x2
  have hfx:∀ k,k<b→w.heap[k]?=w0.heap[k]?:=fun k hkb=>hk.fix k (est2_fix (by have:=blk_lt hx2;omega) (fun h=>by omega) (fun h=>h))
  have hcc:∀ j,w.cell? ⟨gb,j,none⟩=w0.cell? ⟨gb,j,none⟩:=fun j=>cell_same (hfx _ hgb)
  have q0:=(hcc _).trans hc0
  have q1:=(hcc _).trans hc1
  have q2:=(hcc _).trans hc2
  have q3:=(hcc _).trans hc3
  have q4:=(hcc _).trans hc4
  have q5:=(hcc _).trans hc5
  obtain ⟨A,n',cap,e44,h1,h2⟩:=f44
  obtain ⟨A',n'',cap',e49,h1',h2'⟩:=f49
  have hln:=h2.1.1
  have hln':=h2'.1.1
  have hok:=hf0
  have hok':=hf1
  refine obE_callNew #[.agg #[.int .i64 f0.1,.slice A n' cap],.agg #[.int .i64 f1.1,.slice A' n'' cap']] rfl rfl rfl rfl (by simp only [List.map_cons,List.map_nil];rw [show a.eval (.tmp 44)=_ from e44,show a.eval (.tmp 49)=_ from e49]) (wanted_none rfl) ((refBoth_calls A A' n' cap n'' cap' f0.1 f1.1 f0.2 f1.2 w h2.1 h2'.1 hok.1 hok.2.2.1 hok'.2.2.1 (by have:=hok.2.2.2;omega) (by have:=hok'.2.2.2;omega)).mono ?_)
  intro e w' h
  exact NfV.of_got h
 ·refine ⟨⟨fun τ=>stableE_nfboxF,leans_not⟩,?_⟩
  intro a w O hk
  have e2:a.eval (.tmp 2)=.pointer (some ⟨b+1,0,none⟩):=(hk.init 2 (initialB_of_nw nw2)).trans hi2
  have f50:=hk.fact 10 _ 50 rfl rfl rfl rfl
  have g50:=hk.owns 10 rfl rfl
  have x2:=hk.world.still hx2 (fun ⟨_,h⟩=>h.elim (fun h=>by have:b=b+1:=h.2;omega) (fun h=>h.2))
  obtain ⟨p0,p1,p2,-,-,-⟩:=row3 x2
  have hfx:∀ k,k<b→w.heap[k]?=w0.heap[k]?:=fun k hkb=>hk.fix k (est2_fix (by have:=blk_lt hx2;omega) (fun h=>by omega) (fun h=>h))
  have hcc:∀ j,w.cell? ⟨gb,j,none⟩=w0.cell? ⟨gb,j,none⟩:=fun j=>cell_same (hfx _ hgb)
  have q0:=(hcc _).trans hc0
  have q1:=(hcc _).trans hc1
  have q2:=(hcc _).trans hc2
  have q3:=(hcc _).trans hc3
  have q4:=(hcc _).trans hc4
  have q5:=(hcc _).trans hc5
  have x4:=(hk.est 11 _ rfl (.inl rfl) (b+1) (.inl ⟨rfl,rfl⟩)).trans hx4
  obtain ⟨z0,z1,y0,y1⟩:=row2 x4
  obtain ⟨A,n',cap,e50,h1,h2⟩:=f50
  refine obE_store (w':=(w.setCell ⟨b+1,0,none⟩ (.int .i64 (shortN (orN f0 f1)).1)).setCell ⟨b+1,1,none⟩ (.slice A n' cap)) (fun k=>k=b+1∨O 10 k) (wanted_none rfl) (by unfold execOp;simp only [];rw [e2,show a.eval (.tmp 50)=_ from e50];go_simp) ((chg_set2 w (b+1) _ _).mono fun k h=>.inr (.inl ⟨rfl,h⟩)) ?_ (fun k h=>.inl ?_)
  ·exact ⟨A,n',cap,set2 x4,.inl rfl,h1,(h2.same fun k hk' hz=>(chg_set2 w (b+1) _ _).block k hz (fun h=>hk'.elim id fun h'=>hk.away 11 10 _ rfl (.inl rfl) rfl rfl (b+1) (.inl ⟨rfl,rfl⟩) (h ▸ h'))).mono fun k hk' _=>hk'.elim False.elim fun h'=>⟨.inr h',fun h=>hk.away 11 10 _ rfl (.inl rfl) rfl rfl (b+1) (.inl ⟨rfl,rfl⟩) (h ▸ h')⟩⟩
  ·exact h.elim (fun h=>.inr (.inl ⟨rfl,h⟩)) fun h=>.inl ⟨10,by simp [rn2_C],h⟩
set_option maxRecDepth 100000 in
set_option maxHeartbeats 8000000 in
theorem rn2_region {Q:Exit→Act→World→Prop} {id:Nat} (w0:World) (b:Nat) (k n:Int) (gb off c:Nat) (g0 B0:Value) (xk0 xn0:Int) (A0:Option Addr) (m0 c0:Nat) (f0:Nf) (xk1 xn1:Int) (A1:Option Addr) (m1 c1:Nat) (f1:Nf)  {s0 s3 s4 s5 s6 s7 s8 s9 s10 s11 s12 s13 s14 s15 s16 s17 s18 s19 s20 s21 s22 s23 s24 s25 s26 s27 s28 s29 s30 s31 s32 s33 s34 s35 s36 s37 s38 s39 s40 s41 s42 s43 s44 s45 s46 s47 s48 s49 s50:Value} (hx2:w0.heap[b]?=some (.cells #[.int .i64 k,.int .i64 n,.slice (some ⟨gb,off,none⟩) 2 c] 25 (0,0))) (hx4:w0.heap[b+1]?=some (.cells #[g0,B0] 86 (0,0))) (hgb:gb<b) (hc0:w0.cell? ⟨gb,off,none⟩=some (.int .i64 xk0)) (hc1:w0.cell? ⟨gb,off+1,none⟩=some (.int .i64 xn0)) (hc2:w0.cell? ⟨gb,off+2,none⟩=some (.slice A0 m0 c0)) (hc3:w0.cell? ⟨gb,off+3,none⟩=some (.int .i64 xk1)) (hc4:w0.cell? ⟨gb,off+4,none⟩=some (.int .i64 xn1)) (hc5:w0.cell? ⟨gb,off+5,none⟩=some (.slice A1 m1 c1)) (hof0:∀ w,(∀ k,k<b→w.heap[k]?=w0.heap[k]?)→w0.heap.size≤w.heap.size→Calls Try.prog 90 #[.agg #[.int .i64 xk0,.int .i64 xn0,.slice A0 m0 c0]] w (NfGot w (fun _=>False) f0)) (hof1:∀ w,(∀ k,k<b→w.heap[k]?=w0.heap[k]?)→w0.heap.size≤w.heap.size→Calls Try.prog 90 #[.agg #[.int .i64 xk1,.int .i64 xn1,.slice A1 m1 c1]] w (NfGot w (fun _=>False) f1)) (hf0:NfOk f0) (hf1:NfOk f1)
  (hend:∀ (w':World) (u44:Value) (u49:Value) (u50:Value) (O4:Nat→Prop) (O9:Nat→Prop) (v11:Value) (O11:Nat→Prop),Chg (fun k=>(fun k=>k=b+1) k∨(fun _=>False) k) w0 w'→(NfV (fun _=>False) f0 u44 w' O4)→(∀ k,O4 k→k<w'.heap.size∧¬ Fix w0 (est2 11 0 (fun k=>k=b+1) (fun _=>False)) k)→(NfV (fun _=>False) f1 u49 w' O9)→(∀ k,O9 k→k<w'.heap.size∧¬ Fix w0 (est2 11 0 (fun k=>k=b+1) (fun _=>False)) k)→(NfBoxF (b+1) (shortN (orN f0 f1)) w' O11)→(∀ k,O11 k→k<w'.heap.size∧¬ Fix w0 (est2 11 0 (fun k=>k=b+1) (fun _=>False)) k)→Q .normal { tmps:=(s0 :: (.pointer (some ⟨b,0,none⟩)) :: (.pointer (some ⟨b+1,0,none⟩)) :: s3 :: s4 :: s5 :: s6 :: s7 :: s8 :: s9 :: s10 :: s11 :: s12 :: s13 :: s14 :: s15 :: s16 :: s17 :: s18 :: s19 :: s20 :: s21 :: s22 :: s23 :: s24 :: s25 :: s26 :: s27 :: s28 :: s29 :: s30 :: s31 :: s32 :: s33 :: s34 :: s35 :: s36 :: s37 :: s38 :: s39 :: (.pointer (some ⟨b,2,none⟩)) :: (.slice (some ⟨gb,off,none⟩) 2 c) :: (.pointer (some ⟨gb,off,none⟩)) :: (.agg #[.int .i64 xk0,.int .i64 xn0,.slice A0 m0 c0]) :: u44 :: (.pointer (some ⟨b,2,none⟩)) :: (.slice (some ⟨gb,off,none⟩) 2 c) :: (.pointer (some ⟨gb,off+3,none⟩)) :: (.agg #[.int .i64 xk1,.int .i64 xn1,.slice A1 m1 c1]) :: u49 :: u50 :: []:List Value).toArray,defers:=[] } w') :
  (Code.region id rn2_ops.toArray true).wp Try.prog Q { tmps:=(s0 :: (.pointer (some ⟨b,0,none⟩)) :: (.pointer (some ⟨b+1,0,none⟩)) :: s3 :: s4 :: s5 :: s6 :: s7 :: s8 :: s9 :: s10 :: s11 :: s12 :: s13 :: s14 :: s15 :: s16 :: s17 :: s18 :: s19 :: s20 :: s21 :: s22 :: s23 :: s24 :: s25 :: s26 :: s27 :: s28 :: s29 :: s30 :: s31 :: s32 :: s33 :: s34 :: s35 :: s36 :: s37 :: s38 :: s39 :: s40 :: s41 :: s42 :: s43 :: s44 :: s45 :: s46 :: s47 :: s48 :: s49 :: s50 :: []:List Value).toArray,defers:=[] } w0:=by
 refine wp_region_est (by kernel_rfl) (est2 11 0 (fun k=>k=b+1) (fun _=>False)) rn2_C (rn2_F w0 b k n gb off c g0 B0 xk0 xn0 A0 m0 c0 f0 xk1 xn1 A1 m1 c1 f1 ) (est2_dis (fun k h1 h2=>h2)) (est2_range (fun k h=>by have:=blk_lt hx4;omega) (fun k h=>h.elim)) (by rfl) (by kernel_rfl) (rn2_obs w0.drew b k n gb off c g0 B0 xk0 xn0 A0 m0 c0 f0 xk1 xn1 A1 m1 c1 f1  hx2 hx4 hgb hc0 hc1 hc2 hc3 hc4 hc5 hof0 hof1 hf0 hf1 _ _ rfl rfl) ?_
 intro a w' O hd hs hb hf hf2 ha hsame
 have hl:=slots_eq (ops:=rn2_ops.toArray) [(40,.pointer (some ⟨b,2,none⟩)),(41,.slice (some ⟨gb,off,none⟩) 2 c),(42,.pointer (some ⟨gb,off,none⟩)),(43,.agg #[.int .i64 xk0,.int .i64 xn0,.slice A0 m0 c0]),(44,a.tmps.getD 44 undef),(45,.pointer (some ⟨b,2,none⟩)),(46,.slice (some ⟨gb,off,none⟩) 2 c),(47,.pointer (some ⟨gb,off+3,none⟩)),(48,.agg #[.int .i64 xk1,.int .i64 xn1,.slice A1 m1 c1]),(49,a.tmps.getD 49 undef),(50,a.tmps.getD 50 undef)] (show a.tmps.size=51 from hs) (fun i h=>hsame i h) ⟨(hf 0 _ 40 rfl rfl (by decide)).1,(hf 1 _ 41 rfl rfl (by decide)).1,(hf 2 _ 42 rfl rfl (by decide)).1,(hf 3 _ 43 rfl rfl (by decide)).1,rfl,(hf 5 _ 45 rfl rfl (by decide)).1,(hf 6 _ 46 rfl rfl (by decide)).1,(hf 7 _ 47 rfl rfl (by decide)).1,(hf 8 _ 48 rfl rfl (by decide)).1,rfl,rfl,trivial⟩ (by kernel_rfl)
 obtain ⟨tmps,defers⟩:=a
 obtain rfl:defers=[]:=hd
 have hl':tmps=_:=hl
 rw [hl']
 obtain ⟨⟨v11,hv11⟩,ho11⟩:=hf2 11 _ rfl rfl (by decide)
 have hb':=est2_chg hb
 refine Eq.mp ?_ (hend w' (tmps.getD 44 undef) (tmps.getD 49 undef) (tmps.getD 50 undef) (O 4) (O 9) v11 (O 11) ⟨hb'.os,hb'.tape,hb'.output,hb'.size,hb'.block⟩ (hf 4 _ 44 rfl rfl (by decide)).1 (hf 4 _ 44 rfl rfl (by decide)).2 (hf 9 _ 49 rfl rfl (by decide)).1 (hf 9 _ 49 rfl rfl (by decide)).2 hv11 ho11)
 kernel_rfl

end Go.Proofs.Ytdboloabpjmgaaa

namespace Go.Proofs.Ytdboloabpjmgaaa
open Go.RowKit Go.Proofs.YtdboloabpjmgaaaW.PrintWords Go.RegionInvYtdboloabpjmgaaa Go.RegionEYtdboloabpjmgaaa

abbrev rnW (w:World) (A:Option Addr) (m c:Nat) (k n:Int):World:=(w.alloc (.cells #[.int .i64 k,.int .i64 n,.slice A m c] 25 (0,0))).alloc (.cells #[.int .i64 0,.slice none 0 0] 86 (0,0))
theorem got_boxF {w w1 w':World} {f:Nf} {O:Nat→Prop} (hb1:Below w.heap.size w w1) (h:NfBoxF (w.heap.size+1) f w' O) (hc:Chg (fun k=>(fun k=>k=w.heap.size+1) k∨(fun _=>False) k) w1 w') (hO:∀ k,O k→w.heap.size≤k) :
  ∃ A n cap,w'.heap[w.heap.size+1]?=some (.cells #[.int .i64 f.1,.slice A n cap] 86 (0,0))∧NfGot w (fun _=>False) f (.returned (.agg #[.int .i64 f.1,.slice A n cap])) w':=by
 obtain ⟨A,n,cap,hb,-,h1,h2⟩:=h
 refine ⟨A,n,cap,hb,A,n,cap,rfl,h1,h2.mono fun b hb _=>.inr (hO b hb.1),Chg.trans_below hb1 hc (fun k h=>?_) hb1.size⟩
 rcases h with h | h
 ·have:k=w.heap.size+1:=h
  omega
 ·exact h.elim
theorem rep_snoc (j:Nat) (x:Int):List.replicate (j+1) x=List.replicate j x ++ [x]:=List.replicate_succ'
set_option maxHeartbeats 8000000 in
theorem refNorm_calls (N:Nat):∀ (l:Lv),SizeOf.sizeOf l<N→Good l→∀ (A:Option Addr) (c:Nat) (w:World),LvIn w w.heap.size A c l →
  Calls Try.prog 90 #[lvV A c l] w (NfGot w (fun _=>False) (shortN (sumP l))):=by
 induction N with
 | zero=>intro l h;omega
 | succ N ih =>
  rintro ⟨lk,ln,ks⟩ hN hgood A c w hin
  have IH:=Ak ih
  have HIN:=Ak hin
  have HGOOD:=Ak hgood
  clear ih hin hgood
  unfold lvV
  simp only [Lv.kind,Lv.num,Lv.kids]
  have hb1:Below w.heap.size w (rnW w A ks.length c lk ln):=below_alloc (below_alloc (Below.refl _ _) _) _
  have hx2:(rnW w A ks.length c lk ln).heap[w.heap.size]?=some (.cells #[.int .i64 lk,.int .i64 ln,.slice A ks.length c] 25 (0,0)):=box0 w _ _
  have hx4:(rnW w A ks.length c lk ln).heap[w.heap.size+1]?=some (.cells #[.int .i64 0,.slice none 0 0] 86 (0,0)):=box1 w _ _
  have HB1:=Ak hb1
  have HX2:=Ak hx2
  have HX4:=Ak hx4
  have hz1:(rnW w A ks.length c lk ln).heap.size=w.heap.size+2:=by simp [rnW]
  have HZ1:=Ak hz1
  clear hb1 hx2 hx4 hz1
  rcases good_cases HGOOD.out with ⟨rfl,rfl,h0,h1⟩ | ⟨rfl,rfl,h0,h1⟩ | ⟨rfl,x,rfl,h0,h1,hx⟩ | ⟨rfl,x,y,rfl,hx,hy⟩
  ·
   rw [num_sum,short_num]
   obtain ⟨d0,d1,-,-⟩:=row2 HX4.out
   clear HGOOD
   go_enter Try.func90,Try.ntmps90
   go_wp2
   refine bodyPost_ret (results_c rfl _ _ (w.heap.size+1) 86 #[.int .i64 ln,.slice none 0 0] (0,0) _ rfl (box1 w _ _) Try.underlying86 rfl (by kernel_rfl)) rfl ?_
   exact ⟨none,0,0,rfl,Nat.le_refl _,IntsS.nil _ _,below_alloc (below_alloc (Below.refl _ _) _) _⟩
  ·
   obtain ⟨i,rfl⟩:=Int.eq_ofNat_of_zero_le h0
   have HE:=Ak (show shortN (sumP (.mk 2 (i:Int) []))=(0,List.replicate i (-1) ++ [0]) by rw [var_sum,short_var])
   clear HGOOD
   obtain ⟨W,hW⟩:∃ W,W=(rnW w A 0 c 2 i).alloc (.cells #[.int .i64 0,.slice none 0 0] 86 (0,0)):=⟨_,rfl⟩
   have hst:MkF w W (w.heap.size+1+1) 0 (.slice none 0 0) []:=by
    rw [hW]
    refine ⟨?_,own_nil _ _ _ _,below_alloc HB1.out _⟩
    have:=blk_new (rnW w A 0 c 2 i) (.cells #[.int .i64 0,.slice none 0 0] 86 (0,0))
    simpa [rnW] using this
   have HST:=Ak hst
   have HRES:=Ak (show W.heap[w.heap.size+1]?=some (.cells #[.int .i64 0,.slice none 0 0] 86 (0,0)) by rw [hW];exact blk_alloc HX4.out _)
   have HL:=Ak (show W.heap[w.heap.size]?=some (.cells #[.int .i64 2,.int .i64 i,.slice A 0 c] 25 (0,0)) by rw [hW];exact blk_alloc HX2.out _)
   clear hst
   go_enter Try.func90,Try.ntmps90
   go_upto_region 6 with (fail)
   rw [← hW]
   clear hW
   obtain ⟨p0,p1,p2,-,-,-⟩:=row3 HL.out
   go_upto_block 1 with (fail)
   go_cut [] (fun wr=>∃ V,Aside0 (MkF w wr (w.heap.size+1+1) 0 V (List.replicate i (-1)))∧Aside0 (wr.heap[w.heap.size+1]?=some (.cells #[.int .i64 0,.slice none 0 0] 86 (0,0))))
   case first =>
    clear p0 p1 p2
    go_wp2
    go_loopw [16] (fun k wr=>∃ (j:Nat) (V:Value),k=.int .i64 j∧j≤i∧Aside0 (MkF w wr (w.heap.size+1+1) 0 V (List.replicate j (-1)))∧Aside0 (wr.heap[w.heap.size+1]?=some (.cells #[.int .i64 0,.slice none 0 0] 86 (0,0)))) (fun k _=>i - (intOf k).toNat)
    case atStart=>exact ⟨0,_,rfl,Nat.zero_le _,HST,HRES⟩
    case round =>
     clear HST HRES HL
     obtain ⟨j,V,rfl,hj,HST,HRES⟩:=hrel
     by_cases hlt:j<i
     ·obtain ⟨d0,d1,-,e1⟩:=row2 HST.out.box
      obtain ⟨A0,c0,rfl⟩:=own_slice HST.out.row
      obtain ⟨L,hL⟩:∃ L,L=(List.replicate j (-1:Int)).length:=⟨_,rfl⟩
      rw [← hL] at HST d1
      have HLJ:=Ak (show L=j by rw [hL,List.length_replicate])
      have HT:=Ak (rep_snoc j (-1))
      have hbase:w.heap.size+1+1+1≤wr.heap.size:=blk_lt HST.out.box
      clear hL
      go_wp2_with (first
       | (at_builtin;go_must (refine print_append_num (w0:=wr) (w.heap.size+1+1+1) rfl (.tmp 19) (.tmp 20) 84 3 .i64 8 rfl Try.underlying84 infoI64 (by decide) (.slice A0 L c0) (List.replicate j (-1)) (-1) rfl rfl (by have h:=HST.out.row;rw [HLJ.out,List.length_replicate] at h;rw [HLJ.out,List.length_replicate];exact h) (Below.refl _ _) hbase (by rw [List.length_replicate];omega) ?_;intro v1 w1 ho _ hg _;obtain ⟨A6,L6,c6,rfl,-⟩:=own_slice' ho;have HG:=Ak (HST.out.grow (Nat.le_of_lt (by omega)) ho hg);have HR6:=Ak (HG.out.2.1 _ _ (by omega) HRES.out);obtain ⟨d0,d1,-,e1⟩:=row2 HG.out.1;clear ho hg)))
      go_roundw
      case rel =>
       refine ⟨j+1,.slice A6 L6 c6,by go_num,by omega,⟨?_⟩,⟨((chg_set w1 (w.heap.size+1+1) 1 _).block _ (blk_lt HR6.out) (by omega)).trans HR6.out⟩⟩
       rw [HT.out]
       exact HG.out.2.2
      case measure=>(simp [intOf];try omega)
     ·obtain rfl:j=i:=by omega
      have hlt':decide ((j:Int)<j)=false:=by simp
      go_wp2
      go_meet
      case rel=>exact ⟨_,HST,HRES⟩
   case rest =>
    clear HST HRES HL p0 p1 p2
    obtain ⟨V,HST,HRES⟩:=hcut
    obtain ⟨d0,d1,-,e1⟩:=row2 HST.out.box
    obtain ⟨A0,c0,rfl⟩:=own_slice HST.out.row
    obtain ⟨L,hL⟩:∃ L,L=(List.replicate i (-1:Int)).length:=⟨_,rfl⟩
    rw [← hL] at HST d1
    have HLJ:=Ak (show L=i by rw [hL,List.length_replicate])
    have hbase:w.heap.size+1+1+1≤wc.heap.size:=blk_lt HST.out.box
    have HLN:=Ak (show (List.replicate i (-1:Int) ++ [0]).length=i+1 by simp)
    clear hL
    go_upto_region 11 with (first
     | (at_builtin;go_must (refine print_append_num (w0:=wc) (w.heap.size+1+1+1) rfl (.tmp 25) (.tmp 26) 84 3 .i64 8 rfl Try.underlying84 infoI64 (by decide) (.slice A0 L c0) (List.replicate i (-1)) 0 rfl rfl (by have h:=HST.out.row;rw [HLJ.out,List.length_replicate] at h;rw [HLJ.out,List.length_replicate];exact h) (Below.refl _ _) hbase (by rw [List.length_replicate];omega) ?_;intro v1 w1 ho _ hg _;obtain ⟨A6,c6,hv6,hcap6,hi6⟩:=IntsS.of_own ho;rw [HLN.out] at hv6 hcap6 hi6;subst hv6;have HCAP6:=Ak hcap6;have HI6:=Ak hi6;clear hcap6 hi6;have HG:=Ak (HST.out.grow (Nat.le_of_lt (by omega)) ho hg);have HR6:=Ak (HG.out.2.1 _ _ (by omega) HRES.out);obtain ⟨d0,d1,-,e1⟩:=row2 HG.out.1;clear ho hg)))
    have HM:=Ak HG.out.2.2
    have hch0:=chg_set w1 (w.heap.size+1+1) 1 (.slice A6 (i+1) c6)
    have HR7:=Ak ((hch0.block _ (blk_lt HR6.out) (by omega)).trans HR6.out)
    have HI7:=Ak (HI6.out.same fun b hb hz=>hch0.block b hz (by omega))
    obtain ⟨W2,hW2⟩:∃ W2,W2=w1.setCell ⟨w.heap.size+1+1,1,none⟩ (.slice A6 (i+1) c6):=⟨_,rfl⟩
    rw [← hW2] at HM HR7 HI7 ⊢
    clear hW2 hch0 HG HR6 HI6 d0 d1 e1
    obtain ⟨d0,d1,-,-⟩:=row2 HM.out.box
    obtain ⟨f0,f1,g0,g1⟩:=row2 HR7.out
    go_wp2
    have hch:=chg_set2 W2 (w.heap.size+1) (.int .i64 0) (.slice A6 (i+1) c6)
    refine bodyPost_ret (results_c rfl _ _ (w.heap.size+1) 86 #[.int .i64 0,.slice A6 (i+1) c6] (0,0) _ rfl (set2 HR7.out) Try.underlying86 rfl (by kernel_rfl)) rfl ?_
    rw [HE.out]
    exact ⟨A6,i+1,c6,rfl,HCAP6.out,(HI7.out.same fun b hb hz=>hch.block b hz (by omega)).mono fun b hb _=>.inr (by omega),Chg.trans_below HM.out.bel hch (fun _ e=>by omega) HM.out.bel.size⟩
  ·
   obtain ⟨A',c',hcs,hxin⟩:=HIN.out.kid 0 x rfl
   obtain ⟨gb,off,rfl,hgb⟩:=kid_ptr hcs
   have hc:=lit_kid (hcs.same (w':=rnW w (some ⟨gb,off,none⟩) [x].length c 3 ln) fun k hk _=>HB1.out.block k hk)
   have hsok:NfOk (sumP x):=ofP_ok (fun _ h=>by cases h) hx
   have HOK:=Ak (short_ok hsok)
   have HE:=Ak (show shortN (sumP (.mk 3 ln [x]))=shortN (plusR ln (shortN (sumP x))) by rw [short_plus hsok (by omega) h1];show shortN (ofP [] _)=_;rw [ofP_succ];rfl)
   have HXIN:=Ak hxin
   have HC:=Ak hc
   have HX:=Ak hx
   clear hcs hc hx hxin HGOOD hsok
   rw [HE.out]
   go_enter Try.func90,Try.ntmps90
   go_upto_region 13 with (fail)
   refine rn1_region (rnW w (some ⟨gb,off,none⟩) [x].length c 3 ln) w.heap.size 3 ln gb off 1 c (.int .i64 0) (.slice none 0 0) x.kind x.num A' x.kids.length c' (shortN (sumP x)) HX2.out HX4.out hgb HC.out.1 HC.out.2.1 HC.out.2.2 (fun w5 hw5 hz5=>?_) (by decide) (by omega) h1 HOK.out ?_
   ·have hkid:=kid_small (k:=3) (n:=ln) (ks:=[x]) (i:=0) (x:=x) rfl
    exact IH.out x (by omega) HX.out A' c' w5 (LvS.all (HXIN.out.same fun k hk _=>(hw5 k hk).trans (HB1.out.block k hk)))
   ·intro w' u36 u39 O4 v8 O8 hch _ _ hbox ho8
    obtain ⟨A6,n6,cap6,hb6,hgot⟩:=got_boxF HB1.out hbox hch (fun k hk=>Nat.le_of_succ_le (fix_not (ho8 k hk).2 (fun i h=>h.elim And.right fun h=>h.2.elim) (by rw [HZ1.out];omega)))
    have HG:=Ak hgot
    have HB6:=Ak hb6
    clear hch hbox ho8 hb6 hgot
    go_wp2
    exact bodyPost_ret (results_c rfl _ _ (w.heap.size+1) 86 #[.int .i64 (shortN (plusR ln (shortN (sumP x)))).1,.slice A6 n6 cap6] (0,0) _ rfl HB6.out Try.underlying86 rfl (by kernel_rfl)) rfl HG.out
  ·
   obtain ⟨A',c',hcs,hxin⟩:=HIN.out.kid 0 x rfl
   obtain ⟨A'',c'',hcs',hyin⟩:=HIN.out.kid 1 y rfl
   obtain ⟨gb,off,rfl,hgb⟩:=kid_ptr hcs
   have hc:=lit_kid (hcs.same (w':=rnW w (some ⟨gb,off,none⟩) [x,y].length c 4 ln) fun k hk _=>HB1.out.block k hk)
   have hc':=lit_kid (hcs'.same (w':=rnW w (some ⟨gb,off,none⟩) [x,y].length c 4 ln) fun k hk _=>HB1.out.block k hk)
   have hsx:NfOk (sumP x):=ofP_ok (fun _ h=>by cases h) hx
   have hsy:NfOk (sumP y):=ofP_ok (fun _ h=>by cases h) hy
   have HOK:=Ak (short_ok hsx)
   have HOK':=Ak (short_ok hsy)
   have HE:=Ak (show shortN (sumP (.mk 4 ln [x,y]))=shortN (orN (shortN (sumP x)) (shortN (sumP y))) by rw [short_or hsx hsy];show shortN (ofP [] _)=_;rw [ofP_max];rfl)
   have HXIN:=Ak hxin
   have HYIN:=Ak hyin
   have HC:=Ak hc
   have HC':=Ak hc'
   have HX:=Ak hx
   have HY:=Ak hy
   clear hcs hc hx hxin hcs' hc' hy hyin HGOOD hsx hsy
   rw [HE.out]
   go_enter Try.func90,Try.ntmps90
   go_upto_region 14 with (fail)
   refine rn2_region (rnW w (some ⟨gb,off,none⟩) [x,y].length c 4 ln) w.heap.size 4 ln gb off c (.int .i64 0) (.slice none 0 0) x.kind x.num A' x.kids.length c' (shortN (sumP x)) y.kind y.num A'' y.kids.length c'' (shortN (sumP y)) HX2.out HX4.out hgb HC.out.1 HC.out.2.1 HC.out.2.2 HC'.out.1 HC'.out.2.1 HC'.out.2.2 (fun w5 hw5 hz5=>?_) (fun w5 hw5 hz5=>?_) HOK.out HOK'.out ?_
   ·have hkid:=kid_small (k:=4) (n:=ln) (ks:=[x,y]) (i:=0) (x:=x) rfl
    exact IH.out x (by omega) HX.out A' c' w5 (LvS.all (HXIN.out.same fun k hk _=>(hw5 k hk).trans (HB1.out.block k hk)))
   ·have hkid:=kid_small (k:=4) (n:=ln) (ks:=[x,y]) (i:=1) (x:=y) rfl
    exact IH.out y (by omega) HY.out A'' c'' w5 (LvS.all (HYIN.out.same fun k hk _=>(hw5 k hk).trans (HB1.out.block k hk)))
   ·intro w' u44 u49 u50 O4 O9 v11 O11 hch _ _ _ _ hbox ho11
    obtain ⟨A6,n6,cap6,hb6,hgot⟩:=got_boxF HB1.out hbox hch (fun k hk=>Nat.le_of_succ_le (fix_not (ho11 k hk).2 (fun i h=>h.elim And.right fun h=>h.2.elim) (by rw [HZ1.out];omega)))
    have HG:=Ak hgot
    have HB6:=Ak hb6
    clear hch hbox ho11 hb6 hgot
    go_wp2
    exact bodyPost_ret (results_c rfl _ _ (w.heap.size+1) 86 #[.int .i64 (shortN (orN (shortN (sumP x)) (shortN (sumP y)))).1,.slice A6 n6 cap6] (0,0) _ rfl HB6.out Try.underlying86 rfl (by kernel_rfl)) rfl HG.out
end Go.Proofs.Ytdboloabpjmgaaa

namespace Go.Proofs.Ytdboloabpjmgaaa
open Go.RowKit Go.Proofs.YtdboloabpjmgaaaW.PrintWords Go.RegionInvYtdboloabpjmgaaa Go.RegionEYtdboloabpjmgaaa

theorem varL_zero {k:Int} {i:Nat} (h:k<1) (hi:i≤1000):varL k i=.mk 2 i []:=by unfold varL;rw [plP_own h,own_var hi]
theorem varL_pos {k:Int} {i:Nat} (h:0<k) (hi:i≤1000):varL k i=.mk 3 k [.mk 2 i []]:=by unfold varL;rw [plP_new (by omega) (by simp [Lv.kind]),own_var hi]
structure PF (w wr:World) (c:Int) (B:Value) (V:Value) (xs:List Lv):Prop where
 x1:wr.heap[w.heap.size]?=some (.cells #[.int .i64 c,B] 86 (0,0))
 x2:wr.heap[w.heap.size+1]?=some (.cells #[.int .i64 0,.int .i64 0,.slice none 0 0] 25 (0,0))
 kids:KidsAt wr (w.heap.size+2) V xs
 bel:Below w.heap.size w wr
theorem PF.later {w wr w':World} {c:Int} {B V:Value} {xs:List Lv} (h:PF w wr c B V xs) (hb:Below wr.heap.size wr w'):PF w w' c B V xs:=
 ⟨blk_below h.x1 hb,blk_below h.x2 hb,h.kids.later hb,below_then h.bel h.bel.size hb⟩
theorem PF.base {w wr:World} {c:Int} {B V:Value} {xs:List Lv} (h:PF w wr c B V xs):w.heap.size+2≤wr.heap.size:=by have:=blk_lt h.x2;omega
theorem pf_push {w w5 w6:World} {c:Int} {B V v6:Value} {xs:List Lv} {A5:Option Addr} {c5:Nat} {x:Lv} {cells:List Value} {fA:Nat→Option Addr} {fc:Nat→Nat} (h:PF w w5 c B V xs)
  (ho:w5.ownsRow (w.heap.size+2) 25 3 V xs.length cells)
  (hk:∀ (i:Nat) (x:Lv),xs[i]?=some x→cells[i * 3]?=some (.int .i64 x.kind)∧cells[i * 3+1]?=some (.int .i64 x.num)∧cells[i * 3+2]?=some (.slice (fA i) x.kids.length (fc i))∧LvS w5 (fun b=>w.heap.size+2≤b∧V.ownBlock≠some b) (fA i) (fc i) x)
  (hl:LvS w5 (fun b=>w.heap.size+2≤b∧V.ownBlock≠some b) A5 c5 x)
  (ho1:w6.ownsRow (w.heap.size+2) 25 3 v6 (xs.length+1) (cells ++ [.int .i64 x.kind,.int .i64 x.num,.slice A5 x.kids.length c5])) (hg:w5.grownBy w6 V.ownBlock) (hat:v6.ownBlock=V.ownBlock∨∃ b,v6.ownBlock=some b∧w5.heap.size≤b):PF w w6 c B v6 (xs ++ [x]):=by
 have far:∀ k,k<w.heap.size+2→some k≠V.ownBlock:=fun k hk e=>by have:=own_base ho k e.symm;omega
 refine ⟨?_,?_,KidsAt.push ho hk hl ho1 hg hat,⟨hg.os.trans h.bel.os,hg.tape.trans h.bel.tape,hg.output.trans h.bel.output,Nat.le_trans h.bel.size hg.size,fun i hi=>?_⟩⟩
 ·rw [hg.block _ (blk_lt h.x1) (far _ (by omega))];exact h.x1
 ·rw [hg.block _ (blk_lt h.x2) (far _ (by omega))];exact h.x2
 ·rw [hg.block i (Nat.lt_of_lt_of_le hi h.bel.size) (far i (by omega))];exact h.bel.block i hi
theorem freshF_away {w wr w5:World} {c:Int} {B V:Value} {xs:List Lv} {A:Option Addr} {c5:Nat} {x:Lv} {m:Nat} (h:PF w wr c B V xs) (hm:wr.heap.size≤m) (hl:LvS w5 (fun b=>False∨m≤b) A c5 x):LvS w5 (fun b=>w.heap.size+2≤b∧V.ownBlock≠some b) A c5 x:=by
 have hb:=h.base
 obtain ⟨cells,fA,fc,ho,_⟩:=h.kids
 refine hl.mono fun b hb' _=>?_
 rcases hb' with hb' | hb'
 ·exact hb'.elim
 ·exact ⟨by omega,fun e=>by have:=own_lt ho b e;omega⟩
set_option maxHeartbeats 8000000 in
theorem refLevel_calls (A:Option Addr) (n cap:Nat) (c:Int) (ks:List Int) (w:World) (hr:ReadsInt w .i64 A n ks) (hok:NfOk (c,ks)) (hlen:n≤1001) (hne:partsN (c,ks)≠[]) :
  Calls Try.prog 93 #[.agg #[.int .i64 c,.slice A n cap]] w (LvGot w (fun _=>False) (lvlN (c,ks))):=by
 have HR:=Ak hr
 have HN:=Ak hr.1
 have HOK:=Ak hok
 have HNE:=Ak hne
 have hc0:=hok.1
 clear hr hok hne
 obtain ⟨W,hW⟩:∃ W,W=((w.alloc (.cells #[.int .i64 c,.slice A n cap] 86 (0,0))).alloc (.cells #[.int .i64 0,.int .i64 0,.slice none 0 0] 25 (0,0))):=⟨_,rfl⟩
 have hst:PF w W c (.slice A n cap) (.slice none 0 0) []:=by
  rw [hW]
  exact ⟨box0 w _ _,box1 w _ _,KidsAt.nil _ _,below_alloc (below_alloc (Below.refl _ _) _) _⟩
 have HST:=Ak hst
 clear hst
 go_enter Try.func93,Try.ntmps93
 go_upto_region 2 with (fail)
 rw [← hW]
 clear hW
 obtain ⟨d0,d1,-,-⟩:=row2 HST.out.x1
 go_cut [18] (fun v wr=>v=.bool (decide (0<c∨ks=[]))∧wr=W)
 case first =>
  by_cases hc:0<c
  ·have HD:=Ak (show decide (0<c∨ks=[])=true from decide_eq_true (.inl hc))
   go_wp2
   go_meet
   case rel=>exact ⟨by rw [HD.out],by first | rfl | trivial⟩
  ·by_cases hn:n=0
   ·have HD:=Ak (show decide (0<c∨ks=[])=true from decide_eq_true (.inr (List.eq_nil_of_length_eq_zero (by rw [HN.out];exact hn))))
    have hb:((n:Int) == 0)=true:=by simp [hn]
    clear hn
    go_wp2
    go_meet
    case rel=>exact ⟨by rw [HD.out],by first | rfl | trivial⟩
   ·have HD:=Ak (show decide (0<c∨ks=[])=false from decide_eq_false fun h=>h.elim hc fun h=>hn (by rw [← HN.out,h];rfl))
    have hb:((n:Int) == 0)=false:=by simp;omega
    go_wp2
    go_meet
    case rel=>exact ⟨by rw [HD.out],by first | rfl | trivial⟩
 case rest =>
  obtain ⟨rfl,rfl⟩:=hcut
  obtain ⟨bb,hbb⟩:∃ bb,bb=decide (0<c∨ks=[]):=⟨_,rfl⟩
  rw [← hbb]
  have HP0:=Ak (show partsK (c,ks) 0=(if bb=true then [.mk 1 c []] else []) by
   rw [partsK,hbb];simp)
  clear hbb
  go_upto_if 18 with (fail)
  go_cut [3] (fun v wr=>Aside0 (PF w wr c (.slice A n cap) v (partsK (c,ks) 0)))
  case first =>
   cases bb with
   | true =>
    have HL5:=Ak (show LvS wc (fun b=>w.heap.size+2≤b∧(Value.slice none 0 0).ownBlock≠some b) none 0 (.mk 1 c []) from LvS.leaf _ _ _ _)
    go_wp2_with (first
     | (at_builtin;go_must (obtain ⟨cells,fA,fc,hown,hkids⟩:=HST.out.kids;refine print_append_cells (w0:=wc) (W:=wc) (w.heap.size+2) rfl (.tmp 19) (.tmp 23) 23 25 _ 3 40 rfl Try.underlying23 infoLv rfl (by decide) (by decide) (.slice none 0 0) 0 cells [.int .i64 1,.int .i64 c,.slice none 0 0] rfl rfl rfl (by simp [Value.oneCell']) hown (Below.refl _ _) HST.out.base (by decide) ?_;intro v6 w6 ho6 _ hg6 hat6;have ST6:=Ak (pf_push HST.out hown hkids HL5.out ho6 hg6 hat6);obtain ⟨A6,L6,c6,rfl,-⟩:=own_slice' ho6;clear hown hkids ho6 hg6 hat6)))
    go_meet
    case rel=>exact ⟨by rw [HP0.out];exact ST6.out⟩
   | false =>
    go_wp2
    go_meet
    case rel=>exact ⟨by rw [HP0.out];exact HST.out⟩
  case rest =>
   clear HST HP0 d0 d1
   obtain ⟨HST⟩:=hcut
   have HST:=Ak HST
   obtain ⟨d0,d1,-,-⟩:=row2 HST.out.x1
   go_upto_block 0 with (fail)
   go_cut [3] (fun v wr=>Aside0 (PF w wr c (.slice A n cap) v (partsN (c,ks))))
   case first =>
    go_wp2
    go_loopw [28,3] (fun i v wr=>∃ (j:Nat),i=.int .i64 j∧j≤n∧Aside0 (PF w wr c (.slice A n cap) v (partsK (c,ks) j))) (fun i _ _=>n - (intOf i).toNat)
    case atStart=>exact ⟨0,rfl,Nat.zero_le _,HST⟩
    case round =>
     clear HST d0 d1
     obtain ⟨j,rfl,hj,HST⟩:=hrel
     by_cases hlt:j<n
     ·obtain ⟨ad,rfl,hcx⟩:=(HR.out.below HST.out.bel).at_ j (by omega) (by omega)
      rw [Int.toNat_natCast] at hcx
      obtain ⟨y,hy⟩:∃ y,y=rd ks j:=⟨_,rfl⟩
      rw [← hy] at hcx
      have hyr:-1≤y∧y≤1099511627776:=by
       have:=atP_ok HOK.out.2.2.1 j
       rw [atP_lt (by rw [HN.out];exact hlt),← hy] at this
       exact this
      have HPK:=Ak (show partsK (c,ks) (j+1)=partsK (c,ks) j ++ (if 0≤y then [varL y j] else []) by rw [partsK,hy])
      have hpl:=parts_len (c,ks) j
      clear hy
      have hjn:j≤1000:=by omega
      obtain ⟨xs,hxs⟩:∃ xs,xs=partsK (c,ks) j:=⟨_,rfl⟩
      rw [← hxs] at HST HPK hpl
      clear hxs
      obtain ⟨cl0,fA0,fc0,hown0,-⟩:=HST.out.kids
      obtain ⟨A0,L0,cp0,rfl,-⟩:=own_slice' hown0
      clear hown0
      obtain ⟨W4,hW4⟩:∃ W4,W4=wr.alloc (.cells #[.int .i64 2,.int .i64 j,.slice none 0 0] 25 (0,0)):=⟨_,rfl⟩
      have HBX:=Ak (show W4.heap[wr.heap.size]?=some (.cells #[.int .i64 2,.int .i64 j,.slice none 0 0] 25 (0,0)) by rw [hW4];exact blk_new _ _)
      have HST4:=Ak (HST.out.later (show Below wr.heap.size wr W4 by rw [hW4];exact below_alloc (Below.refl _ _) _))
      have HB4:=Ak (show Below wr.heap.size wr W4 by rw [hW4];exact below_alloc (Below.refl _ _) _)
      have HZ4:=Ak (show W4.heap.size=wr.heap.size+1 by rw [hW4];simp)
      go_upto_region 8 with (fail)
      rw [← hW4]
      clear hW4
      obtain ⟨b0,b1,b2,f0,f1,f2⟩:=row3 HBX.out
      by_cases hy0:0<y
      ·have HPK':=Ak (show partsK (c,ks) (j+1)=xs ++ [.mk 3 y [.mk 2 j []]] by rw [HPK.out,if_pos (by omega),varL_pos hy0 hjn])
       have hpz:=blk_lt HBX.out
       go_upto_region 10 with (fail)
       have hs3:=set3 (a:=.int .i64 3) (b:=.int .i64 y) (c:=.slice (some ⟨W4.heap.size,0,none⟩) 1 1) HBX.out
       have hch:=chg_set3 W4 wr.heap.size (.int .i64 3) (.int .i64 y) (.slice (some ⟨W4.heap.size,0,none⟩) 1 1)
       obtain ⟨W5,hW5⟩:∃ W5,W5=((W4.setCell ⟨wr.heap.size,0,none⟩ (.int .i64 3)).setCell ⟨wr.heap.size,1,none⟩ (.int .i64 y)).setCell ⟨wr.heap.size,2,none⟩ (.slice (some ⟨W4.heap.size,0,none⟩) 1 1):=⟨_,rfl⟩
       have hz5:W5.heap.size=W4.heap.size:=by rw [hW5];simp [World.setCell]
       rw [← hW5] at hs3 hch ⊢
       clear hW5
       obtain ⟨W6,hW6⟩:∃ W6,W6=W5.alloc (.cells #[.int .i64 2,.int .i64 j,.slice none 0 0] 25 (0,0)):=⟨_,rfl⟩
       have HBX6:=Ak (show W6.heap[wr.heap.size]?=some (.cells #[.int .i64 3,.int .i64 y,.slice (some ⟨W4.heap.size,0,none⟩) 1 1] 25 (0,0)) by rw [hW6];exact blk_alloc hs3 _)
       have hb6:Below wr.heap.size wr W6:=by rw [hW6];exact Chg.trans_below HB4.out (chg_trans hch (chg_alloc _ _ _)) (fun _ e=>by omega) HB4.out.size
       have HST6:=Ak (HST.out.later hb6)
       have hk6:W6.heap[W4.heap.size]?=some (.cells #[.int .i64 2,.int .i64 j,.slice none 0 0] 25 (0,0)):=by rw [hW6,← hz5];exact blk_new _ _
       have HL6:=Ak (freshF_away HST.out (Nat.le_refl _) (show LvS W6 (fun b=>False∨wr.heap.size≤b) (some ⟨W4.heap.size,0,none⟩) 1 (.mk 3 y [.mk 2 j []]) from LvS.one (x:=.mk 2 j []) hk6 (LvS.leaf _ _ _ _) (.inr (by omega)) 3 y))
       rw [← hW6]
       clear hW6 hs3 hch hb6 hk6 hz5 b0 b1 b2 f0 f1 f2
       obtain ⟨b0,b1,b2,-,-,-⟩:=row3 HBX6.out
       have hy1:0≤y:=by omega
       go_wp2_with (first
        | (at_builtin;go_must (obtain ⟨cells,fA,fc,hown,hkids⟩:=HST6.out.kids;refine print_append_cells (w0:=W6) (W:=W6) (w.heap.size+2) rfl (.tmp 43) (.tmp 45) 23 25 _ 3 40 rfl Try.underlying23 infoLv rfl (by decide) (by decide) (.slice A0 L0 cp0) xs.length cells [.int .i64 3,.int .i64 y,.slice (some ⟨W4.heap.size,0,none⟩) 1 1] rfl rfl rfl (by simp [Value.oneCell']) hown (Below.refl _ _) HST6.out.base (by omega) ?_;intro v6 w6 ho6 _ hg6 hat6;have ST6:=Ak (pf_push HST6.out hown hkids HL6.out ho6 hg6 hat6);obtain ⟨A6,L6,c6,rfl,-⟩:=own_slice' ho6;clear hown hkids ho6 hg6 hat6)))
       go_roundw
       case rel=>exact ⟨j+1,by go_num,by omega,⟨by rw [HPK'.out];exact ST6.out⟩⟩
       case measure=>(simp [intOf];try omega)
      ·by_cases hy1:0≤y
       ·have HPK':=Ak (show partsK (c,ks) (j+1)=xs ++ [.mk 2 j []] by rw [HPK.out,if_pos hy1,varL_zero (by omega) hjn])
        have HL5:=Ak (show LvS W4 (fun b=>w.heap.size+2≤b∧(Value.slice A0 L0 cp0).ownBlock≠some b) none 0 (.mk 2 j []) from LvS.leaf _ _ _ _)
        go_wp2_with (first
         | (at_builtin;go_must (obtain ⟨cells,fA,fc,hown,hkids⟩:=HST4.out.kids;refine print_append_cells (w0:=W4) (W:=W4) (w.heap.size+2) rfl (.tmp 43) (.tmp 45) 23 25 _ 3 40 rfl Try.underlying23 infoLv rfl (by decide) (by decide) (.slice A0 L0 cp0) xs.length cells [.int .i64 2,.int .i64 j,.slice none 0 0] rfl rfl rfl (by simp [Value.oneCell']) hown (Below.refl _ _) HST4.out.base (by omega) ?_;intro v6 w6 ho6 _ hg6 hat6;have ST6:=Ak (pf_push HST4.out hown hkids HL5.out ho6 hg6 hat6);obtain ⟨A6,L6,c6,rfl,-⟩:=own_slice' ho6;clear hown hkids ho6 hg6 hat6)))
        go_roundw
        case rel=>exact ⟨j+1,by go_num,by omega,⟨by rw [HPK'.out];exact ST6.out⟩⟩
        case measure=>(simp [intOf];try omega)
       ·have HPK':=Ak (show partsK (c,ks) (j+1)=xs by rw [HPK.out,if_neg hy1,List.append_nil])
        go_wp2
        go_roundw
        case rel=>exact ⟨j+1,by go_num,by omega,⟨by rw [HPK'.out];exact HST4.out⟩⟩
        case measure=>(simp [intOf];try omega)
     ·obtain rfl:j=n:=by omega
      have hlt':decide ((j:Int)<j)=false:=by simp
      go_wp2
      go_meet
      case rel =>
       refine ⟨?_⟩
       unfold partsN
       rw [show ((c,ks):Nf).2.length=j from HN.out]
       exact HST.out
   case rest =>
    clear HST d0 d1
    obtain ⟨HST⟩:=hcut
    cases hp:partsN (c,ks) with
    | nil=>exact absurd hp HNE.out
    | cons x r =>
     have HE:=Ak (show lvlN (c,ks)=foldM x r by unfold lvlN;rw [hp])
     rw [hp] at HST
     have HST:=Ak HST
     clear hp
     obtain ⟨A9,c9,rfl,hlv⟩:=HST.out.kids.level
     have HLV:=Ak (hlv 0 0)
     have hcap:=HLV.out.len
     simp only [Lv.kids,List.length_cons] at hcap
     obtain ⟨A',c',hcs,hx0⟩:=HLV.out.kid 0 x rfl
     obtain ⟨gb,off,rfl,hgb⟩:=kid_ptr hcs
     obtain ⟨g0,g1,g2⟩:=lit_kid hcs
     simp only [Nat.zero_mul,Nat.add_zero] at g0 g1 g2
     have HX0:=Ak hx0
     have hgl:gb<wc.heap.size:=World.block_lt_of_cell? wc _ g0
     have hbase:=HST.out.base
     obtain ⟨N,hN⟩:∃ N,N=r.length:=⟨_,rfl⟩
     have hlen2:(x :: r).length=N+1:=by rw [hN];rfl
     rw [hlen2]
     rw [← hN] at hcap
     have HNR:=Ak hN
     clear hcs hx0 hlv hlen2 hN
     go_upto_block 2 with (fail)
     obtain ⟨P9,hP9⟩:∃ P9:Option Addr,P9=(if c9=1 then some ⟨gb,off,none⟩ else some ⟨gb,off+3,none⟩):=⟨_,rfl⟩
     rw [← hP9]
     have HP9:=Ak hP9
     have hout:OutB (w.heap.size+2) wc (wc.alloc (.cells #[.int .i64 x.kind,.int .i64 x.num,.slice A' x.kids.length c'] 25 (0,0))) (foldM x (r.take 0)) A' c':=by
      have hb:Below wc.heap.size wc (wc.alloc (.cells #[.int .i64 x.kind,.int .i64 x.num,.slice A' x.kids.length c'] 25 (0,0))):=below_alloc (Below.refl _ _) _
      exact ⟨blk_new _ _,((HX0.out.mono (S':=fun b=>w.heap.size+2≤b∧b≠wc.heap.size) fun b hb hz=>⟨hb,by omega⟩).later hb),hb⟩
     have HOUT:=Ak hout
     clear hP9 hout g0 g1 g2
     go_wp2
     go_loopw [54] (fun i wr=>∃ (j:Nat) (A6:Option Addr) (c6:Nat),i=.int .i64 j∧j≤N∧Aside0 (OutB (w.heap.size+2) wc wr (foldM x (r.take j)) A6 c6)) (fun i _=>N - (intOf i).toNat)
     case atStart=>exact ⟨0,A',c',rfl,Nat.zero_le _,HOUT⟩
     case round =>
      clear HOUT
      obtain ⟨j,A6,c6,rfl,hj,HOUT⟩:=hrel
      obtain ⟨d0,d1,d2,e0,e1,e2⟩:=row3 HOUT.out.box
      obtain ⟨o,ho⟩:∃ o,o=foldM x (r.take j):=⟨_,rfl⟩
      rw [← ho] at HOUT d0 d1 d2
      have HO:=Ak ho
      clear ho
      by_cases hlt:j<N
      ·obtain rfl:P9=some ⟨gb,off+3,none⟩:=by rw [HP9.out,if_neg (by omega)]
       have hlr:j<r.length:=by rw [← HNR.out];exact hlt
       obtain ⟨q,hq⟩:∃ q,r[j]?=some q:=⟨_,List.getElem?_eq_getElem hlr⟩
       obtain ⟨A7,c7,hcs,hqin⟩:=HLV.out.kid (j+1) q (by simpa [Lv.kids] using hq)
       obtain ⟨g0,g1,g2⟩:=lit_kid (hcs.same (w':=wr) fun k _ hk=>HOUT.out.bel.block k hk)
       rw [show off+(j+1) * 3=off+3+j * 3 by omega] at g0 g1 g2
       have HQ:=Ak hqin
       have HFS:=Ak (show foldM x (r.take (j+1))=.mk 4 0 [o,q] by rw [List.take_add_one,hq];show foldM x (r.take j ++ [q])=_;rw [foldM_snoc,HO.out])
       have hpz:=blk_lt HOUT.out.box
       clear hcs hqin hq
       go_wp2
       exact ⟨⟨j+1,_,_,by go_num,by omega,⟨by rw [HFS.out];exact outb_next HOUT.out hbase HQ.out⟩⟩,by simp [intOf];omega⟩
      ·obtain rfl:j=N:=by omega
       have hlt':decide ((j:Int)<j)=false:=by simp
       have HX2:=Ak (blk_below HST.out.x2 HOUT.out.bel)
       obtain ⟨z0,z1,z2,y0,y1,y2⟩:=row3 HX2.out
       have HF:=Ak (show lvlN (c,ks)=o by rw [HE.out,HO.out,List.take_of_length_le (by rw [← HNR.out];exact Nat.le_refl _)])
       go_wp2
       refine bodyPost_ret (results_c rfl _ _ (w.heap.size+1) 25 #[.int .i64 o.kind,.int .i64 o.num,.slice A6 o.kids.length c6] (0,0) _ rfl (set3 HX2.out) Try.underlying25 rfl (by kernel_rfl)) rfl ?_
       have hch:=chg_set3 wr (w.heap.size+1) (.int .i64 o.kind) (.int .i64 o.num) (.slice A6 o.kids.length c6)
       have hbw:=below_then HST.out.bel HST.out.bel.size HOUT.out.bel
       rw [HF.out]
       exact ⟨A6,c6,rfl,(HOUT.out.lv.same fun b hb hz=>hch.block b hz (by omega)).mono fun b hb _=>.inr (by omega),Chg.trans_below hbw hch (fun _ e=>by omega) hbw.size⟩
end Go.Proofs.Ytdboloabpjmgaaa

namespace Go.Proofs.Ytdboloabpjmgaaa
open Go.RowKit Go.Proofs.YtdboloabpjmgaaaW.PrintWords Go.RegionInvYtdboloabpjmgaaa Go.RegionEYtdboloabpjmgaaa
set_option linter.unusedVariables false

def ri_ops:List Oper:=[
 { dst:=some 43,op:=Go.Op.load 86 (Go.Operand.tmp 6),type:=86,pos:= "ref.go:210",after:=#[],guard:=none },
 { dst:=some 44,op:=Go.Op.load 25 (Go.Operand.tmp 9),type:=25,pos:= "ref.go:210",after:=#[],guard:=none },
 { dst:=some 45,op:=Go.Op.call { callee:=Go.Callee.value (Go.Operand.func 90),args:=#[Go.Operand.tmp 44],argTypes:=#[25] },type:=86,pos:= "ref.go:210",after:=#[{ on:=1,ground:=Go.Ground.data }],guard:=none },
 { dst:=some 46,op:=Go.Op.move (Go.Operand.tmp 8),type:=3,pos:= "ref.go:210",after:=#[],guard:=none },
 { dst:=some 47,op:=Go.Op.call { callee:=Go.Callee.value (Go.Operand.func 92),args:=#[Go.Operand.tmp 45,Go.Operand.tmp 46],argTypes:=#[86,3] },type:=86,pos:= "ref.go:210",after:=#[{ on:=2,ground:=Go.Ground.data },{ on:=3,ground:=Go.Ground.data },{ on:=2,ground:=Go.Ground.chain }],guard:=none },
 { dst:=some 48,op:=Go.Op.call { callee:=Go.Callee.value (Go.Operand.func 91),args:=#[Go.Operand.tmp 43,Go.Operand.tmp 47],argTypes:=#[86,86] },type:=86,pos:= "ref.go:210",after:=#[{ on:=0,ground:=Go.Ground.data },{ on:=4,ground:=Go.Ground.data },{ on:=4,ground:=Go.Ground.chain }],guard:=none },
 { dst:=none,op:=Go.Op.store 86 (Go.Operand.tmp 6) (Go.Operand.tmp 48),type:=0,pos:= "ref.go:210",after:=#[{ on:=5,ground:=Go.Ground.data },{ on:=5,ground:=Go.Ground.chain },{ on:=0,ground:=Go.Ground.phase },{ on:=1,ground:=Go.Ground.phase },{ on:=2,ground:=Go.Ground.phase },{ on:=3,ground:=Go.Ground.phase },{ on:=4,ground:=Go.Ground.phase },{ on:=5,ground:=Go.Ground.phase }],guard:=none }]
def ri_F (w0:World) (g b:Nat) (k:Int) (a_:Nf) (Aa:Option Addr) (na ca:Nat) (Av:Option Addr) (cv:Nat) (lv:Lv):Nat→(Nat→Value)→Value→World→(Nat→Prop)→Prop:=fun rix=>match rix with
 | 0=>fun _ v _ _=>v=.agg #[.int .i64 a_.1,.slice Aa na ca]
 | 1=>fun _ v _ _=>v=lvV Av cv lv
 | 2=>fun τ v w O=>NfV (fun _=>False) (shortN (sumP lv)) v w O
 | 3=>fun _ v _ _=>v=.int .i64 k
 | 4=>fun τ v w O=>NfV (fun _=>False) (shortN (plusR k (shortN (sumP lv)))) v w O
 | 5=>fun τ v w O=>NfV (fun _=>False) (shortN (orN a_ (shortN (plusR k (shortN (sumP lv)))))) v w O
 | 6=>fun τ v w O=>NfBoxF g (shortN (orN a_ (shortN (plusR k (shortN (sumP lv)))))) w O
 | _=>fun _ _ _ _=>True
def ri_C:Nat→List Nat:=fun rix=>match rix with
 | 6=>[5]
 | _=>[]
theorem ri_nw6:nwB ri_ops.toArray 6=true:=by kernel_rfl
theorem ri_nw8:nwB ri_ops.toArray 8=true:=by kernel_rfl
theorem ri_nw9:nwB ri_ops.toArray 9=true:=by kernel_rfl
set_option maxRecDepth 100000 in
set_option maxHeartbeats 8000000 in
theorem ri_obs (w0:World) (g b:Nat) (k:Int) (a_:Nf) (Aa:Option Addr) (na ca:Nat) (Av:Option Addr) (cv:Nat) (lv:Lv) (hx6:w0.heap[g]?=some (.cells #[.int .i64 a_.1,.slice Aa na ca] 86 (0,0))) (hxa:IntsS w0 (fun k=>k<w0.heap.size∧¬ k=g) Aa na a_.2) (hx9:w0.heap[b]?=some (.cells #[.int .i64 lv.kind,.int .i64 lv.num,.slice Av lv.kids.length cv] 25 (0,0))) (hbg:¬ b=g) (hlv:LvS w0 (fun k=>k<w0.heap.size∧¬ k=g) Av cv lv) (hgd:Good lv) (hok0:NfOk (shortN (sumP lv))) (hoka:NfOk a_) (hokp:NfOk (shortN (plusR k (shortN (sumP lv))))) (hk0:0≤k) (hk1:k≤1099511627776) (Q:Exit→Act→World→Prop) (a0:Act) (hi6:a0.tmps.getD 6 undef=.pointer (some ⟨g,0,none⟩)) (hi8:a0.tmps.getD 8 undef=.int .i64 k) (hi9:a0.tmps.getD 9 undef=.pointer (some ⟨b,0,none⟩)) :
  ObsE Try.prog ri_ops.toArray Q (est2 6 0 (fun k=>k=g) (fun _=>False)) ri_C (ri_F w0 g b k a_ Aa na ca Av cv lv) a0 w0 ri_ops.toArray.toList 0:=by
 have nw6:=ri_nw6
 have nw8:=ri_nw8
 have nw9:=ri_nw9
 refine ⟨?_,?_,?_,?_,?_,?_,?_,trivial⟩
 ·refine ⟨⟨fun τ=>stableE_det _,leans_not⟩,?_⟩
  intro a w O hk
  have e6:a.eval (.tmp 6)=.pointer (some ⟨g,0,none⟩):=(hk.init 6 (initialB_of_nw nw6)).trans hi6
  have x6:=(hk.est 6 _ rfl (.inr rfl) g (.inl ⟨rfl,rfl⟩)).trans hx6
  exact obE_loadRow rfl e6 x6 Try.underlying86 rfl (by kernel_rfl) (wanted_none rfl) rfl
 ·refine ⟨⟨fun τ=>stableE_det _,leans_not⟩,?_⟩
  intro a w O hk
  have e9:a.eval (.tmp 9)=.pointer (some ⟨b,0,none⟩):=(hk.init 9 (initialB_of_nw nw9)).trans hi9
  have x9:=hk.world.still hx9 (fun ⟨_,h⟩=>h.elim (fun h=>hbg h.2) And.right)
  exact obE_loadRow rfl e9 x9 Try.underlying25 rfl (by kernel_rfl) (wanted_none rfl) rfl
 ·refine ⟨⟨fun τ=>stableE_nf (fun k hk'=>hk'.elim),leans_not⟩,?_⟩
  intro a w O hk
  have e44:a.eval (.tmp 44)=lvV Av cv lv:=hk.fact 1 _ 44 rfl rfl rfl rfl
  have hlx:=(hlv.same (fun k hk' _=>hk.fix k ((fun k hk'=>est2_fix hk'.1 (fun h=>hk'.2 h) (fun h=>h)) k hk')))
  refine obE_callNew #[lvV Av cv lv] rfl rfl rfl rfl (by simp only [List.map_cons,List.map_nil];rw [e44]) (wanted_none rfl) ((refNorm_calls _ lv (Nat.lt_succ_self _) hgd Av cv w (LvS.all hlx)).mono ?_)
  intro e w' h
  exact NfV.of_got h
 ·refine ⟨⟨fun τ=>stableE_det _,leans_not⟩,?_⟩
  intro a w O hk
  have e8:a.eval (.tmp 8)=.int .i64 k:=(hk.init 8 (initialB_of_nw nw8)).trans hi8
  exact toE (ob_move rfl e8 (wanted_none rfl) rfl)
 ·refine ⟨⟨fun τ=>stableE_nf (fun k hk'=>hk'.elim),leans_not⟩,?_⟩
  intro a w O hk
  have f45:=hk.fact 2 _ 45 rfl rfl rfl rfl
  have g45:=hk.owns 2 rfl rfl
  have e46:a.eval (.tmp 46)=.int .i64 k:=hk.fact 3 _ 46 rfl rfl rfl rfl
  obtain ⟨A,n',cap,e45,h1,h2⟩:=f45
  have hok:=hok0
  have hln:=h2.1.1
  refine obE_callNew #[.agg #[.int .i64 (shortN (sumP lv)).1,.slice A n' cap],.int .i64 k] rfl rfl rfl rfl (by simp only [List.map_cons,List.map_nil];rw [e46,show a.eval (.tmp 45)=_ from e45]) (wanted_none rfl) ((refPlus_calls A n' cap (shortN (sumP lv)).1 k (shortN (sumP lv)).2 w h2.1 hok.1 hok.2.1 hk0 hk1 hok.2.2.1 (by have:=hok.2.2.2;omega)).mono ?_)
  intro e w' h
  exact NfV.of_got h
 ·refine ⟨⟨fun τ=>stableE_nf (fun k hk'=>hk'.elim),leans_not⟩,?_⟩
  intro a w O hk
  have e43:a.eval (.tmp 43)=.agg #[.int .i64 a_.1,.slice Aa na ca]:=hk.fact 0 _ 43 rfl rfl rfl rfl
  have f47:=hk.fact 4 _ 47 rfl rfl rfl rfl
  have g47:=hk.owns 4 rfl rfl
  obtain ⟨A,n',cap,e47,h1,h2⟩:=f47
  have hxa':=(hxa.same (fun k hk' _=>hk.fix k ((fun k hk'=>est2_fix hk'.1 (fun h=>hk'.2 h) (fun h=>h)) k hk')))
  have hln:=h2.1.1
  have hln':=hxa.1.1
  refine obE_callNew #[.agg #[.int .i64 a_.1,.slice Aa na ca],.agg #[.int .i64 (shortN (plusR k (shortN (sumP lv)))).1,.slice A n' cap]] rfl rfl rfl rfl (by simp only [List.map_cons,List.map_nil];rw [e43,show a.eval (.tmp 47)=_ from e47]) (wanted_none rfl) ((refBoth_calls Aa A na ca n' cap a_.1 (shortN (plusR k (shortN (sumP lv)))).1 a_.2 (shortN (plusR k (shortN (sumP lv)))).2 w hxa'.1 h2.1 hoka.1 hoka.2.2.1 hokp.2.2.1 (by have:=hoka.2.2.2;omega) (by have:=hokp.2.2.2;omega)).mono ?_)
  intro e w' h
  exact NfV.of_got h
 ·refine ⟨⟨fun τ=>stableE_nfboxF,leans_not⟩,?_⟩
  intro a w O hk
  have e6:a.eval (.tmp 6)=.pointer (some ⟨g,0,none⟩):=(hk.init 6 (initialB_of_nw nw6)).trans hi6
  have f48:=hk.fact 5 _ 48 rfl rfl rfl rfl
  have g48:=hk.owns 5 rfl rfl
  have x6:=(hk.est 6 _ rfl (.inl rfl) g (.inl ⟨rfl,rfl⟩)).trans hx6
  obtain ⟨z0,z1,y0,y1⟩:=row2 x6
  obtain ⟨A,n',cap,e48,h1,h2⟩:=f48
  refine obE_store (w':=(w.setCell ⟨g,0,none⟩ (.int .i64 (shortN (orN a_ (shortN (plusR k (shortN (sumP lv)))))).1)).setCell ⟨g,1,none⟩ (.slice A n' cap)) (fun k=>k=g∨O 5 k) (wanted_none rfl) (by unfold execOp;simp only [];rw [e6,show a.eval (.tmp 48)=_ from e48];go_simp) ((chg_set2 w g _ _).mono fun k h=>.inr (.inl ⟨rfl,h⟩)) ?_ (fun k h=>.inl ?_)
  ·exact ⟨A,n',cap,set2 x6,.inl rfl,h1,(h2.same fun k hk' hz=>(chg_set2 w g _ _).block k hz (fun h=>hk'.elim id fun h'=>hk.away 6 5 _ rfl (.inl rfl) rfl rfl g (.inl ⟨rfl,rfl⟩) (h ▸ h'))).mono fun k hk' _=>hk'.elim False.elim fun h'=>⟨.inr h',fun h=>hk.away 6 5 _ rfl (.inl rfl) rfl rfl g (.inl ⟨rfl,rfl⟩) (h ▸ h')⟩⟩
  ·exact h.elim (fun h=>.inr (.inl ⟨rfl,h⟩)) fun h=>.inl ⟨5,by simp [ri_C],h⟩
set_option maxRecDepth 100000 in
set_option maxHeartbeats 8000000 in
theorem ri_region {Q:Exit→Act→World→Prop} {id:Nat} (w0:World) (g b:Nat) (k:Int) (a_:Nf) (Aa:Option Addr) (na ca:Nat) (Av:Option Addr) (cv:Nat) (lv:Lv) {s0 s1 s2 s3 s4 s5 s7 s10 s11 s12 s13 s14 s15 s16 s17 s18 s19 s20 s21 s22 s23 s24 s25 s26 s27 s28 s29 s30 s31 s32 s33 s34 s35 s36 s37 s38 s39 s40 s41 s42 s43 s44 s45 s46 s47 s48 s49 s50 s51:Value} (hx6:w0.heap[g]?=some (.cells #[.int .i64 a_.1,.slice Aa na ca] 86 (0,0))) (hxa:IntsS w0 (fun k=>k<w0.heap.size∧¬ k=g) Aa na a_.2) (hx9:w0.heap[b]?=some (.cells #[.int .i64 lv.kind,.int .i64 lv.num,.slice Av lv.kids.length cv] 25 (0,0))) (hbg:¬ b=g) (hlv:LvS w0 (fun k=>k<w0.heap.size∧¬ k=g) Av cv lv) (hgd:Good lv) (hok0:NfOk (shortN (sumP lv))) (hoka:NfOk a_) (hokp:NfOk (shortN (plusR k (shortN (sumP lv))))) (hk0:0≤k) (hk1:k≤1099511627776)
  (hend:∀ (w':World) (u45:Value) (u47:Value) (u48:Value) (O2:Nat→Prop) (O4:Nat→Prop) (v6:Value) (O6:Nat→Prop),Chg (fun k=>(fun k=>k=g) k∨(fun _=>False) k) w0 w'→(NfV (fun _=>False) (shortN (sumP lv)) u45 w' O2)→(∀ k,O2 k→k<w'.heap.size∧¬ Fix w0 (est2 6 0 (fun k=>k=g) (fun _=>False)) k)→(NfV (fun _=>False) (shortN (plusR k (shortN (sumP lv)))) u47 w' O4)→(∀ k,O4 k→k<w'.heap.size∧¬ Fix w0 (est2 6 0 (fun k=>k=g) (fun _=>False)) k)→(NfBoxF g (shortN (orN a_ (shortN (plusR k (shortN (sumP lv)))))) w' O6)→(∀ k,O6 k→k<w'.heap.size∧¬ Fix w0 (est2 6 0 (fun k=>k=g) (fun _=>False)) k)→Q .normal { tmps:=(s0 :: s1 :: s2 :: s3 :: s4 :: s5 :: (.pointer (some ⟨g,0,none⟩)) :: s7 :: (.int .i64 k) :: (.pointer (some ⟨b,0,none⟩)) :: s10 :: s11 :: s12 :: s13 :: s14 :: s15 :: s16 :: s17 :: s18 :: s19 :: s20 :: s21 :: s22 :: s23 :: s24 :: s25 :: s26 :: s27 :: s28 :: s29 :: s30 :: s31 :: s32 :: s33 :: s34 :: s35 :: s36 :: s37 :: s38 :: s39 :: s40 :: s41 :: s42 :: (.agg #[.int .i64 a_.1,.slice Aa na ca]) :: (lvV Av cv lv) :: u45 :: (.int .i64 k) :: u47 :: u48 :: s49 :: s50 :: s51 :: []:List Value).toArray,defers:=[] } w') :
  (Code.region id ri_ops.toArray true).wp Try.prog Q { tmps:=(s0 :: s1 :: s2 :: s3 :: s4 :: s5 :: (.pointer (some ⟨g,0,none⟩)) :: s7 :: (.int .i64 k) :: (.pointer (some ⟨b,0,none⟩)) :: s10 :: s11 :: s12 :: s13 :: s14 :: s15 :: s16 :: s17 :: s18 :: s19 :: s20 :: s21 :: s22 :: s23 :: s24 :: s25 :: s26 :: s27 :: s28 :: s29 :: s30 :: s31 :: s32 :: s33 :: s34 :: s35 :: s36 :: s37 :: s38 :: s39 :: s40 :: s41 :: s42 :: s43 :: s44 :: s45 :: s46 :: s47 :: s48 :: s49 :: s50 :: s51 :: []:List Value).toArray,defers:=[] } w0:=by
 refine wp_region_est (by kernel_rfl) (est2 6 0 (fun k=>k=g) (fun _=>False)) ri_C (ri_F w0 g b k a_ Aa na ca Av cv lv) (est2_dis (fun k h1 h2=>h2)) (est2_range (fun k h=>by have:=blk_lt hx6;omega) (fun k h=>h.elim)) (by rfl) (by kernel_rfl) (ri_obs w0.drew g b k a_ Aa na ca Av cv lv hx6 (hxa.same fun _ _ _=>rfl) hx9 hbg (hlv.same fun _ _ _=>rfl) hgd hok0 hoka hokp hk0 hk1 _ _ rfl rfl rfl) ?_
 intro a w' O hd hs hb hf hf2 ha hsame
 have hl:=slots_eq (ops:=ri_ops.toArray) [(43,.agg #[.int .i64 a_.1,.slice Aa na ca]),(44,lvV Av cv lv),(45,a.tmps.getD 45 undef),(46,.int .i64 k),(47,a.tmps.getD 47 undef),(48,a.tmps.getD 48 undef)] (show a.tmps.size=52 from hs) (fun i h=>hsame i h) ⟨(hf 0 _ 43 rfl rfl (by decide)).1,(hf 1 _ 44 rfl rfl (by decide)).1,rfl,(hf 3 _ 46 rfl rfl (by decide)).1,rfl,rfl,trivial⟩ (by kernel_rfl)
 obtain ⟨tmps,defers⟩:=a
 obtain rfl:defers=[]:=hd
 have hl':tmps=_:=hl
 rw [hl']
 obtain ⟨⟨v6,hv6⟩,ho6⟩:=hf2 6 _ rfl rfl (by decide)
 have hb':=est2_chg hb
 refine Eq.mp ?_ (hend w' (tmps.getD 45 undef) (tmps.getD 47 undef) (tmps.getD 48 undef) (O 2) (O 4) v6 (O 6) ⟨hb'.os,hb'.tape,hb'.output,hb'.size,hb'.block⟩ (hf 2 _ 45 rfl rfl (by decide)).1 (hf 2 _ 45 rfl rfl (by decide)).2 (hf 4 _ 47 rfl rfl (by decide)).1 (hf 4 _ 47 rfl rfl (by decide)).2 hv6 ho6)
 kernel_rfl

end Go.Proofs.Ytdboloabpjmgaaa

namespace Go.Proofs.Ytdboloabpjmgaaa
open Go.RowKit Go.Proofs.YtdboloabpjmgaaaW.PrintWords Go.RegionInvYtdboloabpjmgaaa Go.RegionEYtdboloabpjmgaaa

structure RfSt (wb wr:World) (g:Nat) (f:Nf):Prop where
 box:∃ A n cap,wr.heap[g]?=some (.cells #[.int .i64 f.1,.slice A n cap] 86 (0,0))∧n≤cap∧IntsS wr (fun k=>g<k) A n f.2
 chg:Chg (fun k=>k=g) wb wr
def SndTo (vs:List Lv) (K:List Int) (i:Nat):Prop:=∀ j<i,0≤rd K (j:Nat)→soundB (vlv vs j)=true
theorem sndTo_next {vs:List Lv} {K:List Int} {i:Nat} (h:SndTo vs K i) (hi:0≤rd K (i:Nat)→soundB (vlv vs i)=true):SndTo vs K (i+1):=fun j hj=>by
 rcases Nat.lt_succ_iff_lt_or_eq.1 hj with h' | rfl
 ·exact h j h'
 ·exact hi
theorem snd_nfl {vs:List Lv} {K:List Int} {i:Nat} (h:SndTo vs K i):∀ j<i,0≤rd K (j:Nat)→NfL (sumP (vlv vs j)):=fun j hj h0=>sum_nfl (h j hj h0)
theorem instL_bad {vs:List Lv} {l:Lv} {i:Nat} (hl:soundB l=true) (hi:i<(shortN (sumP l)).2.length) (h0:0≤rd (shortN (sumP l)).2 (i:Nat)) (hs:soundB (vlv vs i)=false):instL vs l=.mk 0 0 []:=by
 have hg:=good_of_sound hl
 have hok:=sumP_ok hl
 have hat:0≤atP (sumP l).2 i:=by rw [← atP_short hok,atP_lt hi];exact h0
 have hiv:i<vs.length:=by
  rcases Nat.lt_or_ge i vs.length with h | h
  ·exact h
  ·unfold vlv at hs
   rw [if_neg (by omega),var_sound (by have:=short_len_le' hl;omega)] at hs
   cases hs
 unfold vlv at hs
 rw [if_pos hiv] at hs
 unfold instL
 rw [if_neg]
 rintro ⟨-,h⟩
 rw [(inst_iff vs hg _).1 h i hiv hat] at hs
 cases hs
theorem instL_good {vs:List Lv} {l:Lv} (hl:soundB l=true) (hs:SndTo vs (shortN (sumP l)).2 (shortN (sumP l)).2.length) :
  instL vs l=lvlN (shortN (accN (shortN (sumP l)).1 (shortN (sumP l)).2 vs (shortN (sumP l)).2.length)):=by
 have hg:=good_of_sound hl
 have hok:=sumP_ok hl
 have hv:∀ i:Nat,0≤atP (sumP l).2 i→i<(shortN (sumP l)).2.length∧0≤rd (shortN (sumP l)).2 (i:Nat):=fun i hi=>by
  rw [← atP_short hok] at hi
  by_cases hlt:i<(shortN (sumP l)).2.length
  ·rw [atP_lt hlt] at hi;exact ⟨hlt,hi⟩
  ·rw [atP_beyond (by omega)] at hi;omega
 rw [acc_eq hg fun i hi=>sum_nfl (hs i (hv i hi).1 (hv i hi).2)]
 unfold instL
 rw [if_pos]
 refine ⟨hl,(inst_iff vs hg _).2 fun i hi h0=>?_⟩
 have:=hs i (hv i h0).1 (hv i h0).2
 unfold vlv at this
 rwa [if_pos hi] at this
set_option maxRecDepth 4000 in
set_option maxHeartbeats 16000000 in
theorem refInst_calls (A:Option Addr) (c:Nat) (l:Lv) (Av:Option Addr) (nv cv:Nat) (vs:List Lv) (w:World) (hin:LvIn w w.heap.size A c l) (hv:LvIn w w.heap.size Av cv (.mk 0 0 vs)) (hn:nv=vs.length) :
  Calls Try.prog 54 #[lvV A c l,.slice Av nv cv] w (LvGot w (fun _=>False) (instL vs l)):=by
 have HIN:=Ak hin
 have HV:=Ak hv
 have HN:=Ak hn
 have hl9:l.kids.length≤9223372036854775807:=by have:=hin.len;omega
 clear hin hv hn
 unfold lvV
 have HB0:=Ak (two_boxes (w:=w) (.cells #[.int .i64 l.kind,.int .i64 l.num,.slice A l.kids.length c] 25 (0,0)) (.cells #[.int .i64 0,.int .i64 0,.slice none 0 0] 25 (0,0)))
 have HX0:=Ak (box0 w (.cells #[.int .i64 l.kind,.int .i64 l.num,.slice A l.kids.length c] 25 (0,0)) (.cells #[.int .i64 0,.int .i64 0,.slice none 0 0] 25 (0,0)))
 have HY0:=Ak (box1 w (.cells #[.int .i64 l.kind,.int .i64 l.num,.slice A l.kids.length c] 25 (0,0)) (.cells #[.int .i64 0,.int .i64 0,.slice none 0 0] 25 (0,0)))
 go_enter Try.func54,Try.ntmps54
 cases hs:soundB l with
 | false =>
  have HS:=Ak hs
  have HE:=Ak (show instL vs l=.mk 0 0 [] by unfold instL;rw [if_neg (by rw [hs];simp)])
  clear hs
  go_upto_region 2 with (first
   | (go_at_call 72;go_must (refine (refSound_calls A c l _ (LvS.all (HIN.out.stay HB0.out))).mono ?_;rintro e w1 ⟨rfl,hb⟩;rw [HS.out];have HB1:=Ak (below_then HB0.out HB0.out.size hb);have HY1:=Ak (blk_below HY0.out hb);obtain ⟨z0,z1,z2,q0,q1,q2⟩:=row3 HY1.out;clear hb)))
  go_wp2
  refine bodyPost_ret (results_c rfl _ _ (w.heap.size+1) 25 #[.int .i64 0,.int .i64 0,.slice none 0 0] (0,0) _ rfl (set3 HY1.out) Try.underlying25 rfl (by kernel_rfl)) rfl ?_
  rw [HE.out]
  exact zero_got _ _ (Chg.trans_below HB1.out (chg_set3 _ _ _ _ _) (fun _ e=>by omega) HB1.out.size)
 | true =>
  have HS:=Ak hs
  obtain ⟨f,hf⟩:∃ f,f=shortN (sumP l):=⟨_,rfl⟩
  have HF:=Ak hf
  have HOK:=Ak (show NfOk f by rw [hf];exact short_ok (sumP_ok hs))
  have HLE:=Ak (show f.2.length≤1001 by rw [hf];exact short_len_le' hs)
  clear hs
  go_upto_region 5 with (first
   | (go_at_call 72;go_must (refine (refSound_calls A c l _ (LvS.all (HIN.out.stay HB0.out))).mono ?_;rintro e w1 ⟨rfl,hb⟩;rw [HS.out];have HB1:=Ak (below_then HB0.out HB0.out.size hb);have HX1:=Ak (blk_below HX0.out hb);have HY1:=Ak (blk_below HY0.out hb);obtain ⟨p0,p1,p2,-,-,-⟩:=row3 HX1.out;clear hb))
   | (go_at_call 90;go_must (refine (refNorm_calls _ l (Nat.lt_succ_self _) (good_of_sound HS.out) A c _ (LvS.all (HIN.out.stay HB1.out))).mono ?_;rw [← hf];rintro e w2 ⟨Af,nf,cf,rfl,hcapf,hif,hb⟩;have HNF:=Ak hif.1.1;have HIF:=Ak hif;have HB2:=Ak (below_then HB1.out HB1.out.size hb);have HY2:=Ak (blk_below HY1.out hb);have HZ1:=Ak HB1.out.size;clear hb hif hcapf)))
  rw [← hf]
  clear hf p0 p1 p2
  obtain ⟨g,hg⟩:∃ g,g=w2.heap.size+1:=⟨_,rfl⟩
  obtain ⟨wb,hwb⟩:∃ wb,wb=(w2.alloc (.cells #[.int .i64 f.1,.slice Af nf cf] 86 (0,0))).alloc (.cells #[.int .i64 f.1,.slice none 0 0] 86 (0,0)):=⟨_,rfl⟩
  have hbb:Below w2.heap.size w2 wb:=by rw [hwb];exact two_boxes _ _
  have hfb:wb.heap[w2.heap.size]?=some (.cells #[.int .i64 f.1,.slice Af nf cf] 86 (0,0)):=by rw [hwb];exact box0 _ _ _
  have hgb:wb.heap[g]?=some (.cells #[.int .i64 f.1,.slice none 0 0] 86 (0,0)):=by rw [hwb,hg];exact box1 _ _ _
  have HBB:=Ak (below_then HB2.out HB2.out.size hbb)
  have HYB:=Ak (blk_below HY2.out hbb)
  have HIB:=Ak ((HIF.out.mono (S':=fun k=>k<g) fun k _ hz=>by omega).later hbb)
  have HST:=Ak (show RfSt wb wb g (shortN (accN f.1 f.2 vs 0)) from ⟨⟨none,0,0,by rw [show accN f.1 f.2 vs 0=(f.1,[]) from rfl,short_num];exact hgb,Nat.le_refl _,by rw [show accN f.1 f.2 vs 0=(f.1,[]) from rfl,short_num];exact IntsS.nil _ _⟩,Chg.of_below (Below.refl _ _)⟩)
  have HGZ:=Ak (show w.heap.size+1<g by have:=blk_lt HY2.out;omega)
  obtain ⟨d0,d1,-,-⟩:=row2 hfb
  rw [← hg,← hwb]
  clear hwb hbb hfb hgb
  have hn9:nf≤1001:=by rw [← HNF.out];exact HLE.out
  clear hg
  go_wp2
  go_loopw [22] (fun i wr=>∃ (j:Nat),i=.int .i64 j∧j≤nf∧Aside0 (SndTo vs f.2 j)∧Aside0 (RfSt wb wr g (shortN (accN f.1 f.2 vs j)))) (fun i _=>nf - (intOf i).toNat)
  case atStart=>exact ⟨0,rfl,Nat.zero_le _,⟨fun j hj=>by omega⟩,HST⟩
  case round =>
   clear HST d0 d1
   obtain ⟨j,rfl,hj,HSN,HST⟩:=hrel
   have hgz:=HGZ.out
   have HBR:=Ak (Chg.trans_below HBB.out HST.out.chg (fun k h=>by have:k=g:=h;omega) HBB.out.size)
   have HYR:=Ak ((HST.out.chg.block _ (blk_lt HYB.out) (by omega)).trans HYB.out)
   have HIR:=Ak (HIB.out.same fun k hk hz=>HST.out.chg.block k hz (by omega))
   have HAC:=Ak (acc_ok (c:=f.1) (K:=f.2) (vs:=vs) ⟨HOK.out.1,HOK.out.2.1⟩ HOK.out.2.2.1 j (by rw [HNF.out];exact hj) (snd_nfl HSN.out))
   by_cases hlt:j<nf
   ·obtain ⟨ad,rfl,hc⟩:=HIR.out.1.at_ j (by omega) (by omega)
    rw [Int.toNat_natCast] at hc
    obtain ⟨y,hy⟩:∃ y,y=rd f.2 j:=⟨_,rfl⟩
    rw [← hy] at hc
    have HY:=Ak hy
    have hyr:-1≤y∧y≤1099511627776:=by
     have:=atP_ok HOK.out.2.2.1 j
     rw [atP_lt (by rw [HNF.out];exact hlt),← hy] at this
     exact this
    clear hy
    by_cases hy0:y<0
    ·have HAN:=Ak (show accN f.1 f.2 vs (j+1)=accN f.1 f.2 vs j by rw [accN,← HY.out,if_pos hy0])
     have HSN':=Ak (sndTo_next HSN.out (fun h=>by rw [← HY.out] at h;omega))
     go_wp2
     go_roundw
     case rel=>exact ⟨j+1,by go_num,by omega,HSN',⟨by rw [HAN.out];exact HST.out⟩⟩
     case measure=>(simp [intOf];try omega)
    ·obtain ⟨x,hx⟩:∃ x,x=vlv vs j:=⟨_,rfl⟩
     have HX:=Ak hx
     clear hx
     obtain ⟨W,hW⟩:∃ W,W=wr.alloc (.cells #[.int .i64 2,.int .i64 j,.slice none 0 0] 25 (0,0)):=⟨_,rfl⟩
     have HBX:=Ak (show W.heap[wr.heap.size]?=some (.cells #[.int .i64 2,.int .i64 j,.slice none 0 0] 25 (0,0)) by rw [hW];exact blk_new _ _)
     have HBW:=Ak (show Below wr.heap.size wr W by rw [hW];exact below_alloc (Below.refl _ _) _)
     go_upto_region 10 with (fail)
     rw [← hW]
     clear hW
     go_upto_if 34 with (fail)
     go_cut [] (fun w5=>∃ Ax cx,Aside0 (w5.heap[wr.heap.size]?=some (.cells #[.int .i64 x.kind,.int .i64 x.num,.slice Ax x.kids.length cx] 25 (0,0)))∧Aside0 (LvS w5 (fun k=>k<w.heap.size) Ax cx x)∧Aside0 (Below wr.heap.size wr w5))
     case first =>
      by_cases hjv:j<nv
      ·obtain ⟨q,hq⟩:∃ q,vs[j]?=some q:=⟨_,List.getElem?_eq_getElem (by rw [← HN.out];exact hjv)⟩
       have HXQ:=Ak (show x=q by rw [HX.out];unfold vlv;rw [if_pos (by rw [← HN.out];exact hjv),lvAt_get hq])
       obtain ⟨Ax,cx,hcs,hlx⟩:=(LvIn.stay HV.out (below_then HBR.out HBR.out.size HBW.out)).kid j q hq
       obtain ⟨ad2,rfl,hc1,hc2,hc3⟩:=hcs.facts
       have HLX:=Ak hlx
       obtain ⟨b0,b1,b2,f0,f1,f2⟩:=row3 HBX.out
       clear hcs hlx hq
       go_wp2
       go_meet
       have hch:=chg_set3 W wr.heap.size (.int .i64 q.kind) (.int .i64 q.num) (.slice Ax q.kids.length cx)
       have hwz:=HBR.out.size
       case rel=>rw [HXQ.out];exact ⟨Ax,cx,⟨set3 HBX.out⟩,⟨HLX.out.same fun k hk hz=>hch.block k hz (by omega)⟩,⟨Chg.trans_below HBW.out hch (fun _ e=>by omega) HBW.out.size⟩⟩
      ·have HXQ:=Ak (show x=.mk 2 j [] by rw [HX.out];unfold vlv;rw [if_neg (by rw [← HN.out];exact hjv)])
       go_wp2
       go_meet
       case rel=>rw [HXQ.out];exact ⟨none,0,⟨HBX.out⟩,⟨LvS.leaf _ _ _ _⟩,⟨HBW.out⟩⟩
     case rest =>
      obtain ⟨Ax,cx,HBX5,HLX5,HB5⟩:=hcut
      clear HBX HBW
      obtain ⟨b0,b1,b2,-,-,-⟩:=row3 HBX5.out
      have hwz:=HBR.out.size
      cases hsx:soundB x with
      | true =>
       have SX:=Ak hsx
       have HSN':=Ak (sndTo_next HSN.out (fun _=>by rw [← HX.out];exact hsx))
       have HNX:=Ak (sum_nfl hsx)
       clear hsx
       go_upto_region 14 with (first
        | (go_at_call 72;go_must (refine (refSound_calls Ax cx x _ (LvIn.mono HLX5.out (Nat.le_trans hwz HB5.out.size))).mono ?_;rintro e w6 ⟨rfl,hb⟩;rw [SX.out];have HB6:=Ak (below_then HB5.out HB5.out.size hb);have HBX6:=Ak (blk_below HBX5.out hb);have HLX6:=Ak (HLX5.out.later hb);clear hb)))
       obtain ⟨Aa,na,ca,hgb,hca,hia⟩:=HST.out.box
       have hgr:=blk_lt hgb
       have hz6:=HB6.out.size
       have HAE:=Ak (show shortN (accN f.1 f.2 vs (j+1))=shortN (orN (shortN (accN f.1 f.2 vs j)) (shortN (plusR y (shortN (sumP x))))) by
        rw [short_plus HNX.out.1 (by omega) hyr.2,short_or HAC.out.1 (plusN_ok HNX.out.1 (by omega) hyr.2),accN,← HY.out,if_neg (by omega),← HX.out])
       refine ri_region w6 g wr.heap.size y (shortN (accN f.1 f.2 vs j)) Aa na ca Ax cx x (blk_below hgb HB6.out) ((hia.later HB6.out).mono fun k hk hz=>⟨hz,by omega⟩) HBX6.out (by omega) (HLX6.out.mono fun k hk hz=>⟨hz,by omega⟩) (good_of_sound SX.out) (short_ok HNX.out.1) (short_ok HAC.out.1) (short_ok (plusR_ok (short_ok HNX.out.1) (by omega) hyr.2)) (by omega) hyr.2 ?_
       intro w' u45 u47 u48 O2 O4 v6 O6 hch _ _ _ _ hbox ho6
       have hst:RfSt wb w' g (shortN (accN f.1 f.2 vs (j+1))):=by
        obtain ⟨A7,n7,c7,h1,-,h2,h3⟩:=hbox
        rw [HAE.out]
        refine ⟨⟨A7,n7,c7,h1,h2,h3.mono fun k hk _=>?_⟩,chg_trans (chg_trans HST.out.chg (Chg.of_below HB6.out)) (hch.mono fun k h=>h.elim id False.elim)⟩
        have:=fix_not (ho6 k hk.1).2 (fun i h=>h.elim And.right fun h=>h.2.elim) (show g≤w6.heap.size by omega)
        have:=hk.2
        show g<k
        omega
       have HST':=Ak hst
       clear hch hbox ho6 hst hgb hca hia
       go_wp2
       go_roundw
       case rel=>exact ⟨j+1,by go_num,by omega,HSN',HST'⟩
       case measure=>(simp [intOf];try omega)
      | false =>
       have SX:=Ak hsx
       have HE:=Ak (show instL vs l=.mk 0 0 [] from instL_bad HS.out (i:=j) (by rw [← HF.out,HNF.out];exact hlt) (by rw [← HF.out,← HY.out];omega) (by rw [← HX.out];exact hsx))
       clear hsx
       go_upto_region 13 with (first
        | (go_at_call 72;go_must (refine (refSound_calls Ax cx x _ (LvIn.mono HLX5.out (Nat.le_trans hwz HB5.out.size))).mono ?_;rintro e w6 ⟨rfl,hb⟩;rw [SX.out];have HB6:=Ak (below_then HBR.out HBR.out.size (below_then HB5.out HB5.out.size hb));have HY6:=Ak (blk_below HYR.out (below_then HB5.out HB5.out.size hb));obtain ⟨z0,z1,z2,q0,q1,q2⟩:=row3 HY6.out;clear hb)))
       go_wp2
       refine bodyPost_ret (results_c rfl _ _ (w.heap.size+1) 25 #[.int .i64 0,.int .i64 0,.slice none 0 0] (0,0) _ rfl (set3 HY6.out) Try.underlying25 rfl (by kernel_rfl)) rfl ?_
       rw [HE.out]
       exact zero_got _ _ (Chg.trans_below HB6.out (chg_set3 _ _ _ _ _) (fun _ e=>by omega) HB6.out.size)
   ·obtain rfl:j=nf:=by omega
    have hlt':decide ((j:Int)<j)=false:=by simp
    obtain ⟨Aa,na,ca,hgb,hca,hia⟩:=HST.out.box
    obtain ⟨h,hh⟩:∃ h,h=shortN (accN f.1 f.2 vs j):=⟨_,rfl⟩
    have HE:=Ak (show instL vs l=lvlN h by rw [hh,instL_good HS.out (by rw [← HF.out,HNF.out];exact HSN.out),← HF.out,HNF.out])
    have HHO:=Ak (show NfOk h by rw [hh];exact short_ok HAC.out.1)
    have HHL:=Ak (show h.2.length≤1001 by rw [hh];exact Nat.le_trans (short_len_le _) HAC.out.2)
    have HHN:=Ak (show partsN h≠[] by rw [hh];exact parts_ne HAC.out.1)
    rw [← hh] at hgb hia
    have HIA:=Ak hia
    obtain ⟨d0,d1,-,-⟩:=row2 hgb
    clear hgb hia hh
    go_wp2_with (first
     | (go_at_call 93;go_must (refine (refLevel_calls Aa na ca h.1 h.2 _ HIA.out.1 HHO.out (by rw [← HIA.out.1.1];exact HHL.out) HHN.out).mono ?_;obtain ⟨x,hx⟩:∃ x,x=lvlN (h.1,h.2):=⟨_,rfl⟩;rw [← hx];have HXE:=Ak (show instL vs l=x by rw [HE.out,hx]);rintro e w6 ⟨A4,c4,rfl,hl4,hb⟩;have HL6:=Ak hl4;have HZ6:=Ak HBR.out.size;have HB6:=Ak (below_then HBR.out HBR.out.size hb);have HY6:=Ak (blk_below HYR.out hb);have HYL:=Ak (blk_lt HYR.out);obtain ⟨z0,z1,z2,q0,q1,q2⟩:=row3 HY6.out;clear hb hl4 hx;simp only [lvV])))
    refine bodyPost_ret (results_c rfl _ _ (w.heap.size+1) 25 #[.int .i64 x.kind,.int .i64 x.num,.slice A4 x.kids.length c4] (0,0) _ rfl (set3 HY6.out) Try.underlying25 rfl (by kernel_rfl)) rfl ?_
    have hch:=chg_set3 w6 (w.heap.size+1) (.int .i64 x.kind) (.int .i64 x.num) (.slice A4 x.kids.length c4)
    have hyl:=HYL.out
    have hz6:=HZ6.out
    rw [HXE.out]
    exact ⟨A4,c4,rfl,(HL6.out.same fun b hb hz=>hch.block b hz (by rcases hb with hb | hb;exact hb.elim;omega)).mono fun b hb _=>hb.elim .inl fun h=>.inr (Nat.le_trans hz6 h),Chg.trans_below HB6.out hch (fun _ e=>by omega) HB6.out.size⟩
end Go.Proofs.Ytdboloabpjmgaaa

namespace Go.Proofs.Ytdboloabpjmgaaa
open Go.RowKit Go.Proofs.YtdboloabpjmgaaaW.PrintWords Go.RegionInvYtdboloabpjmgaaa Go.RegionEYtdboloabpjmgaaa
set_option linter.unusedVariables false

theorem one_term_row {w:World} {g:Nat} {pa:Pl} {a:Tm} {g0:Nat} (h:w.heap[g]?=some (.cells (tmC pa a).toArray 28 (0,0))) (ha:TmIn w g0 pa a):TmsAt w g0 (some ⟨g,0,none⟩) (fun _=>pa) [a]:=by
 have hg:=blk_lt h
 intro i x hx
 match i,hx with
 | 0,hx =>
  obtain rfl:a=x:=by simpa using hx
  refine ⟨⟨g,0,rfl,hg,fun j v hv=>?_⟩,ha⟩
  have hj:j<8:=by have:=(List.getElem?_eq_some_iff.1 hv).1;rwa [tmC_len] at this
  have e:=row_at 0 h hj (by rw [tmC_len];omega)
  rw [show 0+0 * 8+j=0+j by omega,e,Nat.zero_add]
  exact hv
theorem lv_app {ops:Array Oper} {rest:List Oper} {o:Oper} {a:Act} {Q:Exit→Act→World→Prop} {W:World} {T:Nat→Prop} {lo n c:Nat} {V:Value} {A:Option Addr} {xs ys:List Lv} (hgd:o.guard=none) (s y:Operand)
  (ho:o.op=.call { callee:=.builtin .append,args:=#[s,y],argTypes:=#[23,23] }) (hs:a.eval s=V) (hy:a.eval y=.slice A n c) (hn:n=ys.length) (h:KidsL W T lo V xs) (hin:LvS W T A c (.mk 0 0 ys))
  (hlo:lo≤W.heap.size) (hT:∀ k,T k→k<lo) (h40:(xs.length+ys.length) * 40≤140737488355328)
  (hnext:∀ V' w',KidsL w' T lo V' (xs ++ ys)→Below lo W w'→wpList Try.prog ops Q rest (a.put o.dst V') w'):wpList Try.prog ops Q (o :: rest) a W:=by
 obtain ⟨i0,hi,hzz⟩:=Option.map_eq_some_iff.1 infoLv
 simp only [Prod.mk.injEq] at hzz
 obtain ⟨hz0,hz1,hz2⟩:=hzz
 subst hn
 by_cases hne:ys=[]
 ·subst hne
  rw [List.append_nil] at hnext
  obtain ⟨cells,fA,fc,hown,hk⟩:=h
  obtain ⟨A1,c1,rfl⟩:=own_slice hown
  have hc:=own_cap hown
  have hr:(execOp a.eval o).run Try.prog W=.ok (.value (.slice A1 xs.length c1)) W:=by
   unfold execOp
   rw [ho]
   simp only [resolve,invoke,builtin,Sem.run_bind,Sem.run_pure,Result.andThen_ok,List.map_toArray,List.map_cons,List.map_nil,hs,hy]
   cases A <;> cases A1 <;> simp [Builtin.append_,run_underlying Try.underlying23,sizeOf,typeInfo,hi,Builtin.lenOf,Builtin.firstCells,loadCells,loadCellsFrom,storeCells,hc]
  refine wpList_plain hgd fun _ hK=>?_
  unfold Oper.wp
  rw [hr]
  exact hK _ _ (hnext _ _ ⟨cells,fA,fc,hown,hk⟩ (Below.refl _ _))
 ·have hpos:0<ys.length:=by cases ys with
   | nil=>exact absurd rfl hne
   | cons x r=>simp
  obtain ⟨y0,h0⟩:∃ y,ys[0]?=some y:=⟨_,List.getElem?_eq_getElem hpos⟩
  cases hin with
  | mk gA gc hc hm hcell hky =>
  obtain ⟨ad,rfl,-,hsp,-,-,-⟩:=hcell 0 y0 h0
  obtain ⟨b,off,sp⟩:=ad
  obtain rfl:sp=none:=hsp
  have hnews:∀ j u,(lvRow gA gc ys 0)[j]?=some u→W.cell? ((⟨b,off,none⟩:Addr).add j)=some u:=by
   intro j u hu
   have hj:j<ys.length * 3:=by have:=(List.getElem?_eq_some_iff.1 hu).1;rwa [lvRow_len] at this
   obtain ⟨i,m,rfl,hm3,hi3⟩:=mod3 hj
   obtain ⟨z,hz⟩:∃ z,ys[i]?=some z:=⟨_,List.getElem?_eq_getElem hi3⟩
   obtain ⟨g1,g2,g3⟩:=lvRow_get gA gc ys 0 i z hz
   rw [Nat.zero_add] at g3
   obtain ⟨ad',e,-,-,c0,c1,c2⟩:=hcell i z hz
   obtain rfl:(⟨b,off,none⟩:Addr)=ad':=Option.some.inj e
   match m,hm3 with
   | 0,_=>rw [Nat.add_zero] at hu ⊢;rw [c0,← g1,hu]
   | 1,_=>rw [c1,← g2,hu]
   | 2,_=>rw [c2,← g3,hu]
  obtain ⟨cells,fA,fc,hown,hk⟩:=h
  refine wpList_append_lies W hgd s y 23 ho lo 25 i0 _ 3 40 Try.underlying23 hi hz0 hz1 hz2 rfl (by decide) V xs.length cells hs hown ⟨b,off,none⟩ ys.length c (lvRow gA gc ys 0) hy (lvRow_len _ _ _ _) hnews (lvRow_one _ _ _ _) hpos (by simp only [maxLen];omega) (by omega) hlo W.heap.size rfl ?_
  intro g cap w' ho' hg' hat hlt
  have hl:=own_len hown
  obtain ⟨k1,k2⟩:=setL_keep (v1:=.slice (some ⟨g,0,none⟩) (xs.length+ys.length) cap) hown hT (hat.imp (fun e=>e.symm) fun e=>⟨g,rfl,by omega⟩) hg'
  have keep:∀ {A:Option Addr} {c:Nat} {y:Lv},LvS W (SetL T lo V) A c y→LvS w' (SetL T lo (.slice (some ⟨g,0,none⟩) (xs.length+ys.length) cap)) A c y:=by
   intro A c y h
   have h1:LvS W (fun b=>SetL T lo V b∧b<W.heap.size) A c y:=h.mono fun k hk hz=>⟨hk,hz⟩
   exact (h1.same fun k hs hz=>k2 k hs.1 hz).mono fun k hs _=>k1 k hs.1 hs.2
  refine hnext _ w' ⟨cells ++ lvRow gA gc ys 0,fun i=>if i<xs.length then fA i else gA (i - xs.length),fun i=>if i<xs.length then fc i else gc (i - xs.length),by rw [List.length_append];exact ho',fun i z hz=>?_⟩ ⟨hg'.os,hg'.tape,hg'.output,hg'.size,fun k hk=>hg'.block k (by omega) (fun e=>by have:=own_base hown k e.symm;omega)⟩
  rcases Nat.lt_or_ge i xs.length with hi2 | hi2
  ·rw [List.getElem?_append_left hi2] at hz
   obtain ⟨h1,h2,h3,h4⟩:=hk i z hz
   rw [List.getElem?_append_left (by omega),List.getElem?_append_left (by omega),List.getElem?_append_left (by omega)]
   simp only [if_pos hi2]
   exact ⟨h1,h2,h3,keep h4⟩
  ·rw [List.getElem?_append_right hi2] at hz
   obtain ⟨g1,g2,g3⟩:=lvRow_get gA gc ys 0 _ z hz
   rw [Nat.zero_add] at g3
   rw [List.getElem?_append_right (by omega),List.getElem?_append_right (by omega),List.getElem?_append_right (by omega)]
   rw [show i * 3 - cells.length=(i - xs.length) * 3 by omega,show i * 3+1 - cells.length=(i - xs.length) * 3+1 by omega,show i * 3+2 - cells.length=(i - xs.length) * 3+2 by omega]
   simp only [if_neg (show ¬ i<xs.length by omega)]
   exact ⟨g1,g2,g3,keep ((hky _ z hz).mono fun k hk _=>.inl hk)⟩

def sp10_ops:List Oper:=[
 { dst:=some 48,op:=Go.Op.load 28 (Go.Operand.tmp 9),type:=28,pos:= "law.go:184",after:=#[],guard:=none },
 { dst:=some 49,op:=Go.Op.move (Go.Operand.tmp 10),type:=26,pos:= "law.go:184",after:=#[],guard:=none },
 { dst:=some 50,op:=Go.Op.call { callee:=Go.Callee.value (Go.Operand.func 16),args:=#[Go.Operand.tmp 48,Go.Operand.tmp 49],argTypes:=#[28,26] },type:=28,pos:= "law.go:184",after:=#[{ on:=0,ground:=Go.Ground.data },{ on:=1,ground:=Go.Ground.data }],guard:=none },
 { dst:=some 51,op:=Go.Op.load 28 (Go.Operand.tmp 3),type:=28,pos:= "law.go:184",after:=#[],guard:=none },
 { dst:=some 52,op:=Go.Op.call { callee:=Go.Callee.value (Go.Operand.func 48),args:=#[Go.Operand.tmp 50,Go.Operand.tmp 51],argTypes:=#[28,28] },type:=4,pos:= "law.go:184",after:=#[{ on:=2,ground:=Go.Ground.data },{ on:=3,ground:=Go.Ground.data },{ on:=2,ground:=Go.Ground.chain }],guard:=none },
 { dst:=some 53,op:=Go.Op.unOp Go.UnOp.not 4 (Go.Operand.tmp 52),type:=4,pos:= "law.go:184",after:=#[{ on:=4,ground:=Go.Ground.data }],guard:=none },
 { dst:=some 54,op:=Go.Op.move (Go.Operand.tmp 53),type:=4,pos:= "law.go:184",after:=#[{ on:=5,ground:=Go.Ground.data },{ on:=4,ground:=Go.Ground.chain }],guard:=none },
 { dst:=some 55,op:=Go.Op.fieldAddr 28 (Go.Operand.tmp 9) 0,type:=0,pos:= "law.go:184",after:=#[{ on:=6,ground:=Go.Ground.guard }],guard:=some (6,false) },
 { dst:=some 56,op:=Go.Op.load 3 (Go.Operand.tmp 55),type:=3,pos:= "law.go:184",after:=#[{ on:=7,ground:=Go.Ground.data },{ on:=6,ground:=Go.Ground.guard }],guard:=some (6,false) },
 { dst:=some 57,op:=Go.Op.binOp Go.BinOp.eql 3 (Go.Operand.tmp 56) (Go.Operand.const (Go.Value.int Go.IntKind.i64 6)) 3,type:=4,pos:= "law.go:184",after:=#[{ on:=8,ground:=Go.Ground.data },{ on:=6,ground:=Go.Ground.guard }],guard:=some (6,false) },
 { dst:=some 58,op:=Go.Op.pick (Go.Operand.tmp 54) (Go.Operand.const (Go.Value.bool true)) (Go.Operand.tmp 57),type:=4,pos:= "law.go:184",after:=#[{ on:=6,ground:=Go.Ground.data },{ on:=9,ground:=Go.Ground.data }],guard:=none },
 { dst:=some 59,op:=Go.Op.move (Go.Operand.tmp 58),type:=4,pos:= "law.go:184",after:=#[{ on:=10,ground:=Go.Ground.data },{ on:=6,ground:=Go.Ground.chain }],guard:=none },
 { dst:=some 60,op:=Go.Op.load 28 (Go.Operand.tmp 3),type:=28,pos:= "law.go:184",after:=#[{ on:=11,ground:=Go.Ground.guard }],guard:=some (11,false) },
 { dst:=some 61,op:=Go.Op.load 28 (Go.Operand.tmp 3),type:=28,pos:= "law.go:184",after:=#[{ on:=11,ground:=Go.Ground.guard }],guard:=some (11,false) },
 { dst:=some 62,op:=Go.Op.call { callee:=Go.Callee.value (Go.Operand.func 48),args:=#[Go.Operand.tmp 60,Go.Operand.tmp 61],argTypes:=#[28,28] },type:=4,pos:= "law.go:184",after:=#[{ on:=12,ground:=Go.Ground.data },{ on:=13,ground:=Go.Ground.data },{ on:=11,ground:=Go.Ground.chain },{ on:=11,ground:=Go.Ground.guard }],guard:=some (11,false) },
 { dst:=some 63,op:=Go.Op.unOp Go.UnOp.not 4 (Go.Operand.tmp 62),type:=4,pos:= "law.go:184",after:=#[{ on:=14,ground:=Go.Ground.data },{ on:=11,ground:=Go.Ground.guard }],guard:=some (11,false) },
 { dst:=some 64,op:=Go.Op.pick (Go.Operand.tmp 59) (Go.Operand.const (Go.Value.bool true)) (Go.Operand.tmp 63),type:=4,pos:= "law.go:184",after:=#[{ on:=11,ground:=Go.Ground.data },{ on:=15,ground:=Go.Ground.data }],guard:=none }]
def sp10_F (w0:World) (B:Nat) (gh:Nat) (ph:Pl) (th:Tm) (gt:Nat) (pt:Pl) (tt:Tm) (Lx:Option Addr) (nx cx:Nat) (qx:Nat→Pl) (xs:List Tm):Nat→(Nat→Value)→Value→World→(Nat→Prop)→Prop:=fun rix=>match rix with
 | 0=>fun _ v _ _=>v=tmV ph th
 | 1=>fun _ v _ _=>v=.slice Lx nx cx
 | 2=>fun τ v w O=>TmO (fun k=>k<B) (AppsT th xs) v w O
 | 3=>fun _ v _ _=>v=tmV pt tt
 | 4=>fun _ v _ _=>v=.bool true
 | 5=>fun _ v _ _=>v=.bool false
 | 6=>fun _ v _ _=>v=.bool false
 | 7=>fun _ v _ _=>v=.pointer (some ⟨gh,0,none⟩)
 | 8=>fun _ v _ _=>v=.int .i64 th.kind
 | 9=>fun _ v _ _=>v=.bool false
 | 10=>fun _ v _ _=>v=.bool false
 | 11=>fun _ v _ _=>v=.bool false
 | 12=>fun _ v _ _=>v=tmV pt tt
 | 13=>fun _ v _ _=>v=tmV pt tt
 | 14=>fun _ v _ _=>v=.bool true
 | 15=>fun _ v _ _=>v=.bool false
 | 16=>fun _ v _ _=>v=.bool false
 | _=>fun _ _ _ _=>True
def sp10_C:Nat→List Nat:=fun rix=>match rix with
 | _=>[]
theorem sp10_nw3:nwB sp10_ops.toArray 3=true:=by kernel_rfl
theorem sp10_nw9:nwB sp10_ops.toArray 9=true:=by kernel_rfl
theorem sp10_nw10:nwB sp10_ops.toArray 10=true:=by kernel_rfl
set_option maxRecDepth 100000 in
set_option maxHeartbeats 8000000 in
theorem sp10_obs (w0:World) (B:Nat) (gh:Nat) (ph:Pl) (th:Tm) (gt:Nat) (pt:Pl) (tt:Tm) (Lx:Option Addr) (nx cx:Nat) (qx:Nat→Pl) (xs:List Tm) (hB:B≤w0.heap.size) (hx9:w0.heap[gh]?=some (tmO ph th)) (hin9:TmIn w0 B ph th) (hx3:w0.heap[gt]?=some (tmO pt tt)) (hin3:TmIn w0 B pt tt) (hxs:TmsS w0 (fun k=>k<B) Lx qx xs) (hnx:nx=xs.length) (hn20:nx≤2000) (hsa:SameT (AppsT th xs) tt=true) (hk6:th.kind≠6) (hss:SameT tt tt=true) (Q:Exit→Act→World→Prop) (a0:Act) (hi3:a0.tmps.getD 3 undef=.pointer (some ⟨gt,0,none⟩)) (hi9:a0.tmps.getD 9 undef=.pointer (some ⟨gh,0,none⟩)) (hi10:a0.tmps.getD 10 undef=.slice Lx nx cx) :
  ObsE Try.prog sp10_ops.toArray Q (est2 0 0 (fun _=>False) (fun _=>False)) sp10_C (sp10_F w0 B gh ph th gt pt tt Lx nx cx qx xs) a0 w0 sp10_ops.toArray.toList 0:=by
 have nw3:=sp10_nw3
 have nw9:=sp10_nw9
 have nw10:=sp10_nw10
 refine ⟨?_,?_,?_,?_,?_,?_,?_,?_,?_,?_,?_,?_,?_,?_,?_,?_,?_,trivial⟩
 ·refine ⟨⟨fun τ=>stableE_det _,leans_not⟩,?_⟩
  intro a w O hk
  have e9:a.eval (.tmp 9)=.pointer (some ⟨gh,0,none⟩):=(hk.init 9 (initialB_of_nw nw9)).trans hi9
  have x9:=hk.world.still hx9 (fun ⟨_,h⟩=>h.elim And.right And.right)
  have x3:=hk.world.still hx3 (fun ⟨_,h⟩=>h.elim And.right And.right)
  have hfx:∀ k,k<B→w.heap[k]?=w0.heap[k]?:=fun k hk'=>hk.fix k ((fun k hk'=>est2_fix (Nat.lt_of_lt_of_le hk' hB) (fun e=>e.elim) (fun e=>e.elim)) k hk')
  have hsz:=hk.world.size
  have y9:=hin9.same (w':=w) (fun k hk' _=>hfx k hk')
  have y3:=hin3.same (w':=w) (fun k hk' _=>hfx k hk')
  have yx:TmsAt w B Lx qx xs:=fun i x hx=>⟨((hxs i x hx).1.same (w':=w) (fun k hk' _=>hfx k hk')).mono fun k h _=>Nat.lt_of_lt_of_le h (Nat.le_trans hB hsz),(hxs i x hx).2.same (w':=w) (fun k hk' _=>hfx k hk')⟩
  exact obE_loadRow rfl e9 x9 Try.underlying28 rfl (by kernel_rfl) (wanted_none rfl) rfl
 ·refine ⟨⟨fun τ=>stableE_det _,leans_not⟩,?_⟩
  intro a w O hk
  have e10:a.eval (.tmp 10)=.slice Lx nx cx:=(hk.init 10 (initialB_of_nw nw10)).trans hi10
  exact toE (ob_move rfl e10 (wanted_none rfl) rfl)
 ·refine ⟨⟨fun τ=>stableE_tm (fun k hk'=>est2_fix (Nat.lt_of_lt_of_le hk' hB) (fun e=>e.elim) (fun e=>e.elim)),leans_not⟩,?_⟩
  intro a w O hk
  have e48:a.eval (.tmp 48)=tmV ph th:=hk.fact 0 _ 48 rfl rfl rfl rfl
  have e49:a.eval (.tmp 49)=.slice Lx nx cx:=hk.fact 1 _ 49 rfl rfl rfl rfl
  have x9:=hk.world.still hx9 (fun ⟨_,h⟩=>h.elim And.right And.right)
  have x3:=hk.world.still hx3 (fun ⟨_,h⟩=>h.elim And.right And.right)
  have hfx:∀ k,k<B→w.heap[k]?=w0.heap[k]?:=fun k hk'=>hk.fix k ((fun k hk'=>est2_fix (Nat.lt_of_lt_of_le hk' hB) (fun e=>e.elim) (fun e=>e.elim)) k hk')
  have hsz:=hk.world.size
  have y9:=hin9.same (w':=w) (fun k hk' _=>hfx k hk')
  have y3:=hin3.same (w':=w) (fun k hk' _=>hfx k hk')
  have yx:TmsAt w B Lx qx xs:=fun i x hx=>⟨((hxs i x hx).1.same (w':=w) (fun k hk' _=>hfx k hk')).mono fun k h _=>Nat.lt_of_lt_of_le h (Nat.le_trans hB hsz),(hxs i x hx).2.same (w':=w) (fun k hk' _=>hfx k hk')⟩
  exact obE_tmCall #[tmV ph th,.slice Lx nx cx] rfl rfl rfl rfl (by simp only [List.map_cons,List.map_nil];rw [e48,e49];try rfl) (wanted_none rfl) ((Apps_calls B th ph Lx nx cx qx xs w (Nat.le_trans hB hsz) hnx (by omega) (TmS.mono y9 fun k h _=>h) yx).mono fun e w' ⟨q9,h1,h2,h3⟩=>⟨q9,h1,h2.mono fun k h _=>h.elim (fun h=>.inl (.inl h)) .inr,h3⟩)
 ·refine ⟨⟨fun τ=>stableE_det _,leans_not⟩,?_⟩
  intro a w O hk
  have e3:a.eval (.tmp 3)=.pointer (some ⟨gt,0,none⟩):=(hk.init 3 (initialB_of_nw nw3)).trans hi3
  have x9:=hk.world.still hx9 (fun ⟨_,h⟩=>h.elim And.right And.right)
  have x3:=hk.world.still hx3 (fun ⟨_,h⟩=>h.elim And.right And.right)
  have hfx:∀ k,k<B→w.heap[k]?=w0.heap[k]?:=fun k hk'=>hk.fix k ((fun k hk'=>est2_fix (Nat.lt_of_lt_of_le hk' hB) (fun e=>e.elim) (fun e=>e.elim)) k hk')
  have hsz:=hk.world.size
  have y9:=hin9.same (w':=w) (fun k hk' _=>hfx k hk')
  have y3:=hin3.same (w':=w) (fun k hk' _=>hfx k hk')
  have yx:TmsAt w B Lx qx xs:=fun i x hx=>⟨((hxs i x hx).1.same (w':=w) (fun k hk' _=>hfx k hk')).mono fun k h _=>Nat.lt_of_lt_of_le h (Nat.le_trans hB hsz),(hxs i x hx).2.same (w':=w) (fun k hk' _=>hfx k hk')⟩
  exact obE_loadRow rfl e3 x3 Try.underlying28 rfl (by kernel_rfl) (wanted_none rfl) rfl
 ·refine ⟨⟨fun τ=>stableE_det _,leans_not⟩,?_⟩
  intro a w O hk
  have f50:=hk.fact 2 _ 50 rfl rfl rfl rfl
  have g50:=hk.owns 2 rfl rfl
  have e51:a.eval (.tmp 51)=tmV pt tt:=hk.fact 3 _ 51 rfl rfl rfl rfl
  have x9:=hk.world.still hx9 (fun ⟨_,h⟩=>h.elim And.right And.right)
  have x3:=hk.world.still hx3 (fun ⟨_,h⟩=>h.elim And.right And.right)
  have hfx:∀ k,k<B→w.heap[k]?=w0.heap[k]?:=fun k hk'=>hk.fix k ((fun k hk'=>est2_fix (Nat.lt_of_lt_of_le hk' hB) (fun e=>e.elim) (fun e=>e.elim)) k hk')
  have hsz:=hk.world.size
  have y9:=hin9.same (w':=w) (fun k hk' _=>hfx k hk')
  have y3:=hin3.same (w':=w) (fun k hk' _=>hfx k hk')
  have yx:TmsAt w B Lx qx xs:=fun i x hx=>⟨((hxs i x hx).1.same (w':=w) (fun k hk' _=>hfx k hk')).mono fun k h _=>Nat.lt_of_lt_of_le h (Nat.le_trans hB hsz),(hxs i x hx).2.same (w':=w) (fun k hk' _=>hfx k hk')⟩
  obtain ⟨q50,z50,h50⟩:=f50
  replace z50:a.eval (.tmp 50)=_:=z50
  exact obE_callV #[tmV q50 (AppsT th xs),tmV pt tt] rfl rfl rfl rfl (by simp only [List.map_cons,List.map_nil];rw [z50,e51];try rfl) (wanted_none rfl) ((tSame_calls (AppsT th xs) tt q50 pt w (TmS.all h50) (TmIn.mono y3 (Nat.le_trans hB hsz))).mono fun e w' h=>⟨by rw [h.1,hsa],h.2⟩)
 ·refine ⟨⟨fun τ=>stableE_det _,leans_not⟩,?_⟩
  intro a w O hk
  have e52:a.eval (.tmp 52)=.bool true:=hk.fact 4 _ 52 rfl rfl rfl rfl
  have x9:=hk.world.still hx9 (fun ⟨_,h⟩=>h.elim And.right And.right)
  have x3:=hk.world.still hx3 (fun ⟨_,h⟩=>h.elim And.right And.right)
  have hfx:∀ k,k<B→w.heap[k]?=w0.heap[k]?:=fun k hk'=>hk.fix k ((fun k hk'=>est2_fix (Nat.lt_of_lt_of_le hk' hB) (fun e=>e.elim) (fun e=>e.elim)) k hk')
  have hsz:=hk.world.size
  have y9:=hin9.same (w':=w) (fun k hk' _=>hfx k hk')
  have y3:=hin3.same (w':=w) (fun k hk' _=>hfx k hk')
  have yx:TmsAt w B Lx qx xs:=fun i x hx=>⟨((hxs i x hx).1.same (w':=w) (fun k hk' _=>hfx k hk')).mono fun k h _=>Nat.lt_of_lt_of_le h (Nat.le_trans hB hsz),(hxs i x hx).2.same (w':=w) (fun k hk' _=>hfx k hk')⟩
  exact obE_run (wanted_none rfl) (by unfold execOp;simp only [];rw [e52];go_simp) rfl
 ·refine ⟨⟨fun τ=>stableE_det _,leans_not⟩,?_⟩
  intro a w O hk
  have e53:a.eval (.tmp 53)=.bool false:=hk.fact 5 _ 53 rfl rfl rfl rfl
  exact toE (ob_move rfl e53 (wanted_none rfl) rfl)
 ·refine ⟨⟨fun τ=>stableE_det _,leans_not⟩,?_⟩
  intro a w O hk
  have e9:a.eval (.tmp 9)=.pointer (some ⟨gh,0,none⟩):=(hk.init 9 (initialB_of_nw nw9)).trans hi9
  have e54:a.eval (.tmp 54)=.bool false:=hk.fact 6 _ 54 rfl rfl rfl rfl
  have x9:=hk.world.still hx9 (fun ⟨_,h⟩=>h.elim And.right And.right)
  have x3:=hk.world.still hx3 (fun ⟨_,h⟩=>h.elim And.right And.right)
  have hfx:∀ k,k<B→w.heap[k]?=w0.heap[k]?:=fun k hk'=>hk.fix k ((fun k hk'=>est2_fix (Nat.lt_of_lt_of_le hk' hB) (fun e=>e.elim) (fun e=>e.elim)) k hk')
  have hsz:=hk.world.size
  have y9:=hin9.same (w':=w) (fun k hk' _=>hfx k hk')
  have y3:=hin3.same (w':=w) (fun k hk' _=>hfx k hk')
  have yx:TmsAt w B Lx qx xs:=fun i x hx=>⟨((hxs i x hx).1.same (w':=w) (fun k hk' _=>hfx k hk')).mono fun k h _=>Nat.lt_of_lt_of_le h (Nat.le_trans hB hsz),(hxs i x hx).2.same (w':=w) (fun k hk' _=>hfx k hk')⟩
  exact obE_run (wanted_of rfl rfl rfl e54) (by unfold execOp;simp only [];rw [e9];go_simp) rfl
 ·refine ⟨⟨fun τ=>stableE_det _,leans_not⟩,?_⟩
  intro a w O hk
  have e55:a.eval (.tmp 55)=.pointer (some ⟨gh,0,none⟩):=hk.fact 7 _ 55 rfl rfl rfl rfl
  have e54:a.eval (.tmp 54)=.bool false:=hk.fact 6 _ 54 rfl rfl rfl rfl
  have x9:=hk.world.still hx9 (fun ⟨_,h⟩=>h.elim And.right And.right)
  have x3:=hk.world.still hx3 (fun ⟨_,h⟩=>h.elim And.right And.right)
  have hfx:∀ k,k<B→w.heap[k]?=w0.heap[k]?:=fun k hk'=>hk.fix k ((fun k hk'=>est2_fix (Nat.lt_of_lt_of_le hk' hB) (fun e=>e.elim) (fun e=>e.elim)) k hk')
  have hsz:=hk.world.size
  have y9:=hin9.same (w':=w) (fun k hk' _=>hfx k hk')
  have y3:=hin3.same (w':=w) (fun k hk' _=>hfx k hk')
  have yx:TmsAt w B Lx qx xs:=fun i x hx=>⟨((hxs i x hx).1.same (w':=w) (fun k hk' _=>hfx k hk')).mono fun k h _=>Nat.lt_of_lt_of_le h (Nat.le_trans hB hsz),(hxs i x hx).2.same (w':=w) (fun k hk' _=>hfx k hk')⟩
  obtain ⟨p0,p1,p2,p3,p4,p5,p6,p7⟩:=row8 x9
  exact obE_run (wanted_of rfl rfl rfl e54) (by unfold execOp;simp only [];rw [e55];go_simp) rfl
 ·refine ⟨⟨fun τ=>stableE_det _,leans_not⟩,?_⟩
  intro a w O hk
  have e56:a.eval (.tmp 56)=.int .i64 th.kind:=hk.fact 8 _ 56 rfl rfl rfl rfl
  have e54:a.eval (.tmp 54)=.bool false:=hk.fact 6 _ 54 rfl rfl rfl rfl
  have x9:=hk.world.still hx9 (fun ⟨_,h⟩=>h.elim And.right And.right)
  have x3:=hk.world.still hx3 (fun ⟨_,h⟩=>h.elim And.right And.right)
  have hfx:∀ k,k<B→w.heap[k]?=w0.heap[k]?:=fun k hk'=>hk.fix k ((fun k hk'=>est2_fix (Nat.lt_of_lt_of_le hk' hB) (fun e=>e.elim) (fun e=>e.elim)) k hk')
  have hsz:=hk.world.size
  have y9:=hin9.same (w':=w) (fun k hk' _=>hfx k hk')
  have y3:=hin3.same (w':=w) (fun k hk' _=>hfx k hk')
  have yx:TmsAt w B Lx qx xs:=fun i x hx=>⟨((hxs i x hx).1.same (w':=w) (fun k hk' _=>hfx k hk')).mono fun k h _=>Nat.lt_of_lt_of_le h (Nat.le_trans hB hsz),(hxs i x hx).2.same (w':=w) (fun k hk' _=>hfx k hk')⟩
  have hb6:(th.kind == 6)=false:=by simp [hk6]
  exact obE_run (wanted_of rfl rfl rfl e54) (by unfold execOp;simp only [];rw [e56];go_simp;try rw [hb6]) rfl
 ·refine ⟨⟨fun τ=>stableE_det _,leans_not⟩,?_⟩
  intro a w O hk
  have e54:a.eval (.tmp 54)=.bool false:=hk.fact 6 _ 54 rfl rfl rfl rfl
  have e57:a.eval (.tmp 57)=.bool false:=hk.fact 9 _ 57 rfl rfl rfl rfl
  have x9:=hk.world.still hx9 (fun ⟨_,h⟩=>h.elim And.right And.right)
  have x3:=hk.world.still hx3 (fun ⟨_,h⟩=>h.elim And.right And.right)
  have hfx:∀ k,k<B→w.heap[k]?=w0.heap[k]?:=fun k hk'=>hk.fix k ((fun k hk'=>est2_fix (Nat.lt_of_lt_of_le hk' hB) (fun e=>e.elim) (fun e=>e.elim)) k hk')
  have hsz:=hk.world.size
  have y9:=hin9.same (w':=w) (fun k hk' _=>hfx k hk')
  have y3:=hin3.same (w':=w) (fun k hk' _=>hfx k hk')
  have yx:TmsAt w B Lx qx xs:=fun i x hx=>⟨((hxs i x hx).1.same (w':=w) (fun k hk' _=>hfx k hk')).mono fun k h _=>Nat.lt_of_lt_of_le h (Nat.le_trans hB hsz),(hxs i x hx).2.same (w':=w) (fun k hk' _=>hfx k hk')⟩
  exact obE_run (wanted_none rfl) (by unfold execOp;simp only [];rw [e54,e57];go_simp) rfl
 ·refine ⟨⟨fun τ=>stableE_det _,leans_not⟩,?_⟩
  intro a w O hk
  have e58:a.eval (.tmp 58)=.bool false:=hk.fact 10 _ 58 rfl rfl rfl rfl
  have x9:=hk.world.still hx9 (fun ⟨_,h⟩=>h.elim And.right And.right)
  have x3:=hk.world.still hx3 (fun ⟨_,h⟩=>h.elim And.right And.right)
  have hfx:∀ k,k<B→w.heap[k]?=w0.heap[k]?:=fun k hk'=>hk.fix k ((fun k hk'=>est2_fix (Nat.lt_of_lt_of_le hk' hB) (fun e=>e.elim) (fun e=>e.elim)) k hk')
  have hsz:=hk.world.size
  have y9:=hin9.same (w':=w) (fun k hk' _=>hfx k hk')
  have y3:=hin3.same (w':=w) (fun k hk' _=>hfx k hk')
  have yx:TmsAt w B Lx qx xs:=fun i x hx=>⟨((hxs i x hx).1.same (w':=w) (fun k hk' _=>hfx k hk')).mono fun k h _=>Nat.lt_of_lt_of_le h (Nat.le_trans hB hsz),(hxs i x hx).2.same (w':=w) (fun k hk' _=>hfx k hk')⟩
  exact obE_run (wanted_none rfl) (by unfold execOp;simp only [];rw [e58];go_simp) rfl
 ·refine ⟨⟨fun τ=>stableE_det _,leans_not⟩,?_⟩
  intro a w O hk
  have e3:a.eval (.tmp 3)=.pointer (some ⟨gt,0,none⟩):=(hk.init 3 (initialB_of_nw nw3)).trans hi3
  have e59:a.eval (.tmp 59)=.bool false:=hk.fact 11 _ 59 rfl rfl rfl rfl
  have x9:=hk.world.still hx9 (fun ⟨_,h⟩=>h.elim And.right And.right)
  have x3:=hk.world.still hx3 (fun ⟨_,h⟩=>h.elim And.right And.right)
  have hfx:∀ k,k<B→w.heap[k]?=w0.heap[k]?:=fun k hk'=>hk.fix k ((fun k hk'=>est2_fix (Nat.lt_of_lt_of_le hk' hB) (fun e=>e.elim) (fun e=>e.elim)) k hk')
  have hsz:=hk.world.size
  have y9:=hin9.same (w':=w) (fun k hk' _=>hfx k hk')
  have y3:=hin3.same (w':=w) (fun k hk' _=>hfx k hk')
  have yx:TmsAt w B Lx qx xs:=fun i x hx=>⟨((hxs i x hx).1.same (w':=w) (fun k hk' _=>hfx k hk')).mono fun k h _=>Nat.lt_of_lt_of_le h (Nat.le_trans hB hsz),(hxs i x hx).2.same (w':=w) (fun k hk' _=>hfx k hk')⟩
  exact obE_loadRow rfl e3 x3 Try.underlying28 rfl (by kernel_rfl) (wanted_of rfl rfl rfl e59) rfl
 ·refine ⟨⟨fun τ=>stableE_det _,leans_not⟩,?_⟩
  intro a w O hk
  have e3:a.eval (.tmp 3)=.pointer (some ⟨gt,0,none⟩):=(hk.init 3 (initialB_of_nw nw3)).trans hi3
  have e59:a.eval (.tmp 59)=.bool false:=hk.fact 11 _ 59 rfl rfl rfl rfl
  have x9:=hk.world.still hx9 (fun ⟨_,h⟩=>h.elim And.right And.right)
  have x3:=hk.world.still hx3 (fun ⟨_,h⟩=>h.elim And.right And.right)
  have hfx:∀ k,k<B→w.heap[k]?=w0.heap[k]?:=fun k hk'=>hk.fix k ((fun k hk'=>est2_fix (Nat.lt_of_lt_of_le hk' hB) (fun e=>e.elim) (fun e=>e.elim)) k hk')
  have hsz:=hk.world.size
  have y9:=hin9.same (w':=w) (fun k hk' _=>hfx k hk')
  have y3:=hin3.same (w':=w) (fun k hk' _=>hfx k hk')
  have yx:TmsAt w B Lx qx xs:=fun i x hx=>⟨((hxs i x hx).1.same (w':=w) (fun k hk' _=>hfx k hk')).mono fun k h _=>Nat.lt_of_lt_of_le h (Nat.le_trans hB hsz),(hxs i x hx).2.same (w':=w) (fun k hk' _=>hfx k hk')⟩
  exact obE_loadRow rfl e3 x3 Try.underlying28 rfl (by kernel_rfl) (wanted_of rfl rfl rfl e59) rfl
 ·refine ⟨⟨fun τ=>stableE_det _,leans_not⟩,?_⟩
  intro a w O hk
  have e60:a.eval (.tmp 60)=tmV pt tt:=hk.fact 12 _ 60 rfl rfl rfl rfl
  have e61:a.eval (.tmp 61)=tmV pt tt:=hk.fact 13 _ 61 rfl rfl rfl rfl
  have e59:a.eval (.tmp 59)=.bool false:=hk.fact 11 _ 59 rfl rfl rfl rfl
  have x9:=hk.world.still hx9 (fun ⟨_,h⟩=>h.elim And.right And.right)
  have x3:=hk.world.still hx3 (fun ⟨_,h⟩=>h.elim And.right And.right)
  have hfx:∀ k,k<B→w.heap[k]?=w0.heap[k]?:=fun k hk'=>hk.fix k ((fun k hk'=>est2_fix (Nat.lt_of_lt_of_le hk' hB) (fun e=>e.elim) (fun e=>e.elim)) k hk')
  have hsz:=hk.world.size
  have y9:=hin9.same (w':=w) (fun k hk' _=>hfx k hk')
  have y3:=hin3.same (w':=w) (fun k hk' _=>hfx k hk')
  have yx:TmsAt w B Lx qx xs:=fun i x hx=>⟨((hxs i x hx).1.same (w':=w) (fun k hk' _=>hfx k hk')).mono fun k h _=>Nat.lt_of_lt_of_le h (Nat.le_trans hB hsz),(hxs i x hx).2.same (w':=w) (fun k hk' _=>hfx k hk')⟩
  exact obE_callV #[tmV pt tt,tmV pt tt] rfl rfl rfl rfl (by simp only [List.map_cons,List.map_nil];rw [e60,e61];try rfl) (wanted_of rfl rfl rfl e59) ((tSame_calls tt tt pt pt w (TmIn.mono y3 (Nat.le_trans hB hsz)) (TmIn.mono y3 (Nat.le_trans hB hsz))).mono fun e w' h=>⟨by rw [h.1,hss],h.2⟩)
 ·refine ⟨⟨fun τ=>stableE_det _,leans_not⟩,?_⟩
  intro a w O hk
  have e62:a.eval (.tmp 62)=.bool true:=hk.fact 14 _ 62 rfl rfl rfl rfl
  have e59:a.eval (.tmp 59)=.bool false:=hk.fact 11 _ 59 rfl rfl rfl rfl
  have x9:=hk.world.still hx9 (fun ⟨_,h⟩=>h.elim And.right And.right)
  have x3:=hk.world.still hx3 (fun ⟨_,h⟩=>h.elim And.right And.right)
  have hfx:∀ k,k<B→w.heap[k]?=w0.heap[k]?:=fun k hk'=>hk.fix k ((fun k hk'=>est2_fix (Nat.lt_of_lt_of_le hk' hB) (fun e=>e.elim) (fun e=>e.elim)) k hk')
  have hsz:=hk.world.size
  have y9:=hin9.same (w':=w) (fun k hk' _=>hfx k hk')
  have y3:=hin3.same (w':=w) (fun k hk' _=>hfx k hk')
  have yx:TmsAt w B Lx qx xs:=fun i x hx=>⟨((hxs i x hx).1.same (w':=w) (fun k hk' _=>hfx k hk')).mono fun k h _=>Nat.lt_of_lt_of_le h (Nat.le_trans hB hsz),(hxs i x hx).2.same (w':=w) (fun k hk' _=>hfx k hk')⟩
  exact obE_run (wanted_of rfl rfl rfl e59) (by unfold execOp;simp only [];rw [e62];go_simp) rfl
 ·refine ⟨⟨fun τ=>stableE_det _,leans_not⟩,?_⟩
  intro a w O hk
  have e59:a.eval (.tmp 59)=.bool false:=hk.fact 11 _ 59 rfl rfl rfl rfl
  have e63:a.eval (.tmp 63)=.bool false:=hk.fact 15 _ 63 rfl rfl rfl rfl
  have x9:=hk.world.still hx9 (fun ⟨_,h⟩=>h.elim And.right And.right)
  have x3:=hk.world.still hx3 (fun ⟨_,h⟩=>h.elim And.right And.right)
  have hfx:∀ k,k<B→w.heap[k]?=w0.heap[k]?:=fun k hk'=>hk.fix k ((fun k hk'=>est2_fix (Nat.lt_of_lt_of_le hk' hB) (fun e=>e.elim) (fun e=>e.elim)) k hk')
  have hsz:=hk.world.size
  have y9:=hin9.same (w':=w) (fun k hk' _=>hfx k hk')
  have y3:=hin3.same (w':=w) (fun k hk' _=>hfx k hk')
  have yx:TmsAt w B Lx qx xs:=fun i x hx=>⟨((hxs i x hx).1.same (w':=w) (fun k hk' _=>hfx k hk')).mono fun k h _=>Nat.lt_of_lt_of_le h (Nat.le_trans hB hsz),(hxs i x hx).2.same (w':=w) (fun k hk' _=>hfx k hk')⟩
  exact obE_run (wanted_none rfl) (by unfold execOp;simp only [];rw [e59,e63];go_simp) rfl
set_option maxRecDepth 100000 in
set_option maxHeartbeats 8000000 in
theorem sp10_region {Q:Exit→Act→World→Prop} {id:Nat} (w0:World) (B:Nat) (gh:Nat) (ph:Pl) (th:Tm) (gt:Nat) (pt:Pl) (tt:Tm) (Lx:Option Addr) (nx cx:Nat) (qx:Nat→Pl) (xs:List Tm) {s0 s1 s2 s4 s5 s6 s7 s8 s11 s12 s13 s14 s15 s16 s17 s18 s19 s20 s21 s22 s23 s24 s25 s26 s27 s28 s29 s30 s31 s32 s33 s34 s35 s36 s37 s38 s39 s40 s41 s42 s43 s44 s45 s46 s47 s48 s49 s50 s51 s52 s53 s54 s55 s56 s57 s58 s59 s60 s61 s62 s63 s64 s65 s66 s67 s68 s69 s70 s71 s72 s73 s74 s75 s76 s77 s78 s79 s80 s81 s82 s83 s84 s85 s86 s87 s88 s89 s90 s91 s92 s93 s94 s95 s96:Value} (hB:B≤w0.heap.size) (hx9:w0.heap[gh]?=some (tmO ph th)) (hin9:TmIn w0 B ph th) (hx3:w0.heap[gt]?=some (tmO pt tt)) (hin3:TmIn w0 B pt tt) (hxs:TmsS w0 (fun k=>k<B) Lx qx xs) (hnx:nx=xs.length) (hn20:nx≤2000) (hsa:SameT (AppsT th xs) tt=true) (hk6:th.kind≠6) (hss:SameT tt tt=true)
  (hend:∀ (w':World) (u50:Value) (O2:Nat→Prop),Chg (fun k=>False∨False) w0 w'→(TmO (fun k=>k<B) (AppsT th xs) u50 w' O2)→(∀ k,O2 k→k<w'.heap.size∧¬ Fix w0 (est2 0 0 (fun _=>False) (fun _=>False)) k)→Q .normal { tmps:=(s0 :: s1 :: s2 :: (.pointer (some ⟨gt,0,none⟩)) :: s4 :: s5 :: s6 :: s7 :: s8 :: (.pointer (some ⟨gh,0,none⟩)) :: (.slice Lx nx cx) :: s11 :: s12 :: s13 :: s14 :: s15 :: s16 :: s17 :: s18 :: s19 :: s20 :: s21 :: s22 :: s23 :: s24 :: s25 :: s26 :: s27 :: s28 :: s29 :: s30 :: s31 :: s32 :: s33 :: s34 :: s35 :: s36 :: s37 :: s38 :: s39 :: s40 :: s41 :: s42 :: s43 :: s44 :: s45 :: s46 :: s47 :: (tmV ph th) :: (.slice Lx nx cx) :: u50 :: (tmV pt tt) :: (.bool true) :: (.bool false) :: (.bool false) :: (.pointer (some ⟨gh,0,none⟩)) :: (.int .i64 th.kind) :: (.bool false) :: (.bool false) :: (.bool false) :: (tmV pt tt) :: (tmV pt tt) :: (.bool true) :: (.bool false) :: (.bool false) :: s65 :: s66 :: s67 :: s68 :: s69 :: s70 :: s71 :: s72 :: s73 :: s74 :: s75 :: s76 :: s77 :: s78 :: s79 :: s80 :: s81 :: s82 :: s83 :: s84 :: s85 :: s86 :: s87 :: s88 :: s89 :: s90 :: s91 :: s92 :: s93 :: s94 :: s95 :: s96 :: []:List Value).toArray,defers:=[] } w') :
  (Code.region id sp10_ops.toArray true).wp Try.prog Q { tmps:=(s0 :: s1 :: s2 :: (.pointer (some ⟨gt,0,none⟩)) :: s4 :: s5 :: s6 :: s7 :: s8 :: (.pointer (some ⟨gh,0,none⟩)) :: (.slice Lx nx cx) :: s11 :: s12 :: s13 :: s14 :: s15 :: s16 :: s17 :: s18 :: s19 :: s20 :: s21 :: s22 :: s23 :: s24 :: s25 :: s26 :: s27 :: s28 :: s29 :: s30 :: s31 :: s32 :: s33 :: s34 :: s35 :: s36 :: s37 :: s38 :: s39 :: s40 :: s41 :: s42 :: s43 :: s44 :: s45 :: s46 :: s47 :: s48 :: s49 :: s50 :: s51 :: s52 :: s53 :: s54 :: s55 :: s56 :: s57 :: s58 :: s59 :: s60 :: s61 :: s62 :: s63 :: s64 :: s65 :: s66 :: s67 :: s68 :: s69 :: s70 :: s71 :: s72 :: s73 :: s74 :: s75 :: s76 :: s77 :: s78 :: s79 :: s80 :: s81 :: s82 :: s83 :: s84 :: s85 :: s86 :: s87 :: s88 :: s89 :: s90 :: s91 :: s92 :: s93 :: s94 :: s95 :: s96 :: []:List Value).toArray,defers:=[] } w0:=by
 refine wp_region_est (by kernel_rfl) (est2 0 0 (fun _=>False) (fun _=>False)) sp10_C (sp10_F w0 B gh ph th gt pt tt Lx nx cx qx xs) (est2_dis (fun _ h _=>h)) (est2_range (fun _ h=>h.elim) (fun _ h=>h.elim)) (by rfl) (by kernel_rfl) (sp10_obs w0.drew B gh ph th gt pt tt Lx nx cx qx xs hB hx9 (TmS.same hin9 (fun _ _ _=>rfl)) hx3 (TmS.same hin3 (fun _ _ _=>rfl)) (TmsS.same hxs (fun _ _ _=>rfl)) hnx hn20 hsa hk6 hss _ _ rfl rfl rfl) ?_
 intro a w' O hd hs hb hf hf2 ha hsame
 have hl:=slots_eq (ops:=sp10_ops.toArray) [(48,tmV ph th),(49,.slice Lx nx cx),(50,a.tmps.getD 50 undef),(51,tmV pt tt),(52,.bool true),(53,.bool false),(54,.bool false),(55,.pointer (some ⟨gh,0,none⟩)),(56,.int .i64 th.kind),(57,.bool false),(58,.bool false),(59,.bool false),(60,tmV pt tt),(61,tmV pt tt),(62,.bool true),(63,.bool false),(64,.bool false)] (show a.tmps.size=97 from hs) (fun i h=>hsame i h) ⟨(hf 0 _ 48 rfl rfl (by decide)).1,(hf 1 _ 49 rfl rfl (by decide)).1,rfl,(hf 3 _ 51 rfl rfl (by decide)).1,(hf 4 _ 52 rfl rfl (by decide)).1,(hf 5 _ 53 rfl rfl (by decide)).1,(hf 6 _ 54 rfl rfl (by decide)).1,(hf 7 _ 55 rfl rfl (by decide)).1,(hf 8 _ 56 rfl rfl (by decide)).1,(hf 9 _ 57 rfl rfl (by decide)).1,(hf 10 _ 58 rfl rfl (by decide)).1,(hf 11 _ 59 rfl rfl (by decide)).1,(hf 12 _ 60 rfl rfl (by decide)).1,(hf 13 _ 61 rfl rfl (by decide)).1,(hf 14 _ 62 rfl rfl (by decide)).1,(hf 15 _ 63 rfl rfl (by decide)).1,(hf 16 _ 64 rfl rfl (by decide)).1,trivial⟩ (by kernel_rfl)
 obtain ⟨tmps,defers⟩:=a
 obtain rfl:defers=[]:=hd
 have hl':tmps=_:=hl
 rw [hl']
 have hb':=est2_chg hb
 refine Eq.mp ?_ (hend w' (tmps.getD 50 undef) (O 2) ⟨hb'.os,hb'.tape,hb'.output,hb'.size,hb'.block⟩ (hf 2 _ 50 rfl rfl (by decide)).1 (hf 2 _ 50 rfl rfl (by decide)).2)
 kernel_rfl

def sp21_ops:List Oper:=[
 { dst:=some 85,op:=Go.Op.load 28 (Go.Operand.tmp 3),type:=28,pos:= "law.go:195",after:=#[],guard:=none },
 { dst:=some 86,op:=Go.Op.move (Go.Operand.tmp 1),type:=23,pos:= "law.go:195",after:=#[],guard:=none },
 { dst:=some 87,op:=Go.Op.call { callee:=Go.Callee.value (Go.Operand.func 50),args:=#[Go.Operand.tmp 85,Go.Operand.tmp 86],argTypes:=#[28,23] },type:=28,pos:= "law.go:195",after:=#[{ on:=0,ground:=Go.Ground.data },{ on:=1,ground:=Go.Ground.data }],guard:=none },
 { dst:=some 88,op:=Go.Op.move (Go.Operand.tmp 2),type:=23,pos:= "law.go:195",after:=#[],guard:=none },
 { dst:=some 89,op:=Go.Op.call { callee:=Go.Callee.value (Go.Operand.func 50),args:=#[Go.Operand.tmp 87,Go.Operand.tmp 88],argTypes:=#[28,23] },type:=28,pos:= "law.go:195",after:=#[{ on:=2,ground:=Go.Ground.data },{ on:=3,ground:=Go.Ground.data },{ on:=2,ground:=Go.Ground.chain }],guard:=none },
 { dst:=some 90,op:=Go.Op.load 28 (Go.Operand.tmp 3),type:=28,pos:= "law.go:195",after:=#[],guard:=none },
 { dst:=some 91,op:=Go.Op.move (Go.Operand.tmp 11),type:=23,pos:= "law.go:195",after:=#[],guard:=none },
 { dst:=some 92,op:=Go.Op.call { callee:=Go.Callee.value (Go.Operand.func 50),args:=#[Go.Operand.tmp 90,Go.Operand.tmp 91],argTypes:=#[28,23] },type:=28,pos:= "law.go:195",after:=#[{ on:=5,ground:=Go.Ground.data },{ on:=6,ground:=Go.Ground.data },{ on:=4,ground:=Go.Ground.chain }],guard:=none },
 { dst:=some 93,op:=Go.Op.call { callee:=Go.Callee.value (Go.Operand.func 48),args:=#[Go.Operand.tmp 89,Go.Operand.tmp 92],argTypes:=#[28,28] },type:=4,pos:= "law.go:195",after:=#[{ on:=4,ground:=Go.Ground.data },{ on:=7,ground:=Go.Ground.data },{ on:=7,ground:=Go.Ground.chain }],guard:=none },
 { dst:=some 94,op:=Go.Op.move (Go.Operand.tmp 93),type:=4,pos:= "law.go:195",after:=#[{ on:=8,ground:=Go.Ground.data },{ on:=8,ground:=Go.Ground.chain }],guard:=none },
 { dst:=some 95,op:=Go.Op.call { callee:=Go.Callee.value (Go.Operand.func 25),args:=#[],argTypes:=#[] },type:=4,pos:= "law.go:195",after:=#[{ on:=9,ground:=Go.Ground.chain },{ on:=9,ground:=Go.Ground.guard }],guard:=some (9,true) },
 { dst:=some 96,op:=Go.Op.pick (Go.Operand.tmp 94) (Go.Operand.tmp 95) (Go.Operand.const (Go.Value.bool false)),type:=4,pos:= "law.go:195",after:=#[{ on:=9,ground:=Go.Ground.data },{ on:=10,ground:=Go.Ground.data }],guard:=none },
 { dst:=some 6,op:=Go.Op.assign (Go.Operand.tmp 96),type:=4,pos:= "law.go:195",after:=#[{ on:=11,ground:=Go.Ground.data },{ on:=10,ground:=Go.Ground.chain },{ on:=0,ground:=Go.Ground.phase },{ on:=1,ground:=Go.Ground.phase },{ on:=2,ground:=Go.Ground.phase },{ on:=3,ground:=Go.Ground.phase },{ on:=4,ground:=Go.Ground.phase },{ on:=5,ground:=Go.Ground.phase },{ on:=6,ground:=Go.Ground.phase },{ on:=7,ground:=Go.Ground.phase },{ on:=8,ground:=Go.Ground.phase },{ on:=9,ground:=Go.Ground.phase },{ on:=10,ground:=Go.Ground.phase },{ on:=11,ground:=Go.Ground.phase }],guard:=none }]
def sp21_F (w0:World) (B:Nat) (gt:Nat) (pt:Pl) (tt:Tm) (Au:Option Addr) (nu cu:Nat) (us:List Lv) (Av:Option Addr) (nv cv:Nat) (vs:List Lv) (Ab:Option Addr) (nb cb:Nat) (bs:List Lv):Nat→(Nat→Value)→Value→World→(Nat→Prop)→Prop:=fun rix=>match rix with
 | 0=>fun _ v _ _=>v=tmV pt tt
 | 1=>fun _ v _ _=>v=.slice Au nu cu
 | 2=>fun τ v w O=>TmO (fun k=>k<B) (InstLvT tt us) v w O
 | 3=>fun _ v _ _=>v=.slice Av nv cv
 | 4=>fun τ v w O=>TmO (fun k=>k<B) (InstLvT (InstLvT tt us) vs) v w O
 | 5=>fun _ v _ _=>v=tmV pt tt
 | 6=>fun _ v _ _=>v=.slice Ab nb cb
 | 7=>fun τ v w O=>TmO (fun k=>k<B) (InstLvT tt bs) v w O
 | 8=>fun _ v _ _=>v=.bool true
 | 9=>fun _ v _ _=>v=.bool true
 | 10=>fun _ v _ _=>v=.bool true
 | 11=>fun _ v _ _=>v=.bool true
 | 12=>fun _ v _ _=>v=.bool true
 | _=>fun _ _ _ _=>True
def sp21_C:Nat→List Nat:=fun rix=>match rix with
 | 4=>[2]
 | _=>[]
theorem sp21_nw1:nwB sp21_ops.toArray 1=true:=by kernel_rfl
theorem sp21_nw2:nwB sp21_ops.toArray 2=true:=by kernel_rfl
theorem sp21_nw3:nwB sp21_ops.toArray 3=true:=by kernel_rfl
theorem sp21_nw11:nwB sp21_ops.toArray 11=true:=by kernel_rfl
set_option maxRecDepth 100000 in
set_option maxHeartbeats 8000000 in
theorem sp21_obs (w0:World) (B:Nat) (gt:Nat) (pt:Pl) (tt:Tm) (Au:Option Addr) (nu cu:Nat) (us:List Lv) (Av:Option Addr) (nv cv:Nat) (vs:List Lv) (Ab:Option Addr) (nb cb:Nat) (bs:List Lv) (hB:B≤w0.heap.size) (hx3:w0.heap[gt]?=some (tmO pt tt)) (hin3:TmIn w0 B pt tt) (hus:LvIn w0 B Au cu (.mk 0 0 us)) (hnu:nu=us.length) (h6u:nu≤6) (hvs:LvIn w0 B Av cv (.mk 0 0 vs)) (hnv:nv=vs.length) (h6v:nv≤6) (hbs:LvIn w0 B Ab cb (.mk 0 0 bs)) (hnb:nb=bs.length) (h6b:nb≤6) (hsb:SameT (InstLvT (InstLvT tt us) vs) (InstLvT tt bs)=true) (Q:Exit→Act→World→Prop) (a0:Act) (hi1:a0.tmps.getD 1 undef=.slice Au nu cu) (hi2:a0.tmps.getD 2 undef=.slice Av nv cv) (hi3:a0.tmps.getD 3 undef=.pointer (some ⟨gt,0,none⟩)) (hi11:a0.tmps.getD 11 undef=.slice Ab nb cb) :
  ObsE Try.prog sp21_ops.toArray Q (est2 0 0 (fun _=>False) (fun _=>False)) sp21_C (sp21_F w0 B gt pt tt Au nu cu us Av nv cv vs Ab nb cb bs) a0 w0 sp21_ops.toArray.toList 0:=by
 have nw1:=sp21_nw1
 have nw2:=sp21_nw2
 have nw3:=sp21_nw3
 have nw11:=sp21_nw11
 refine ⟨?_,?_,?_,?_,?_,?_,?_,?_,?_,?_,?_,?_,?_,trivial⟩
 ·refine ⟨⟨fun τ=>stableE_det _,leans_not⟩,?_⟩
  intro a w O hk
  have e3:a.eval (.tmp 3)=.pointer (some ⟨gt,0,none⟩):=(hk.init 3 (initialB_of_nw nw3)).trans hi3
  have x3:=hk.world.still hx3 (fun ⟨_,h⟩=>h.elim And.right And.right)
  have hfx:∀ k,k<B→w.heap[k]?=w0.heap[k]?:=fun k hk'=>hk.fix k ((fun k hk'=>est2_fix (Nat.lt_of_lt_of_le hk' hB) (fun e=>e.elim) (fun e=>e.elim)) k hk')
  have hsz:=hk.world.size
  have y3:=hin3.same (w':=w) (fun k hk' _=>hfx k hk')
  have yu:=LvIn.mono (LvS.same (w':=w) hus (fun k hk' _=>hfx k hk')) (Nat.le_trans hB hsz)
  have yv:=LvIn.mono (LvS.same (w':=w) hvs (fun k hk' _=>hfx k hk')) (Nat.le_trans hB hsz)
  have yb:=LvIn.mono (LvS.same (w':=w) hbs (fun k hk' _=>hfx k hk')) (Nat.le_trans hB hsz)
  exact obE_loadRow rfl e3 x3 Try.underlying28 rfl (by kernel_rfl) (wanted_none rfl) rfl
 ·refine ⟨⟨fun τ=>stableE_det _,leans_not⟩,?_⟩
  intro a w O hk
  have e1:a.eval (.tmp 1)=.slice Au nu cu:=(hk.init 1 (initialB_of_nw nw1)).trans hi1
  exact toE (ob_move rfl e1 (wanted_none rfl) rfl)
 ·refine ⟨⟨fun τ=>stableE_tm (fun k hk'=>est2_fix (Nat.lt_of_lt_of_le hk' hB) (fun e=>e.elim) (fun e=>e.elim)),leans_not⟩,?_⟩
  intro a w O hk
  have e85:a.eval (.tmp 85)=tmV pt tt:=hk.fact 0 _ 85 rfl rfl rfl rfl
  have e86:a.eval (.tmp 86)=.slice Au nu cu:=hk.fact 1 _ 86 rfl rfl rfl rfl
  have x3:=hk.world.still hx3 (fun ⟨_,h⟩=>h.elim And.right And.right)
  have hfx:∀ k,k<B→w.heap[k]?=w0.heap[k]?:=fun k hk'=>hk.fix k ((fun k hk'=>est2_fix (Nat.lt_of_lt_of_le hk' hB) (fun e=>e.elim) (fun e=>e.elim)) k hk')
  have hsz:=hk.world.size
  have y3:=hin3.same (w':=w) (fun k hk' _=>hfx k hk')
  have yu:=LvIn.mono (LvS.same (w':=w) hus (fun k hk' _=>hfx k hk')) (Nat.le_trans hB hsz)
  have yv:=LvIn.mono (LvS.same (w':=w) hvs (fun k hk' _=>hfx k hk')) (Nat.le_trans hB hsz)
  have yb:=LvIn.mono (LvS.same (w':=w) hbs (fun k hk' _=>hfx k hk')) (Nat.le_trans hB hsz)
  exact obE_tmCall #[tmV pt tt,.slice Au nu cu] rfl rfl rfl rfl (by simp only [List.map_cons,List.map_nil];rw [e85,e86];try rfl) (wanted_none rfl) ((instLv_calls (fun k=>k<B) w.heap.size (fun k h=>Nat.lt_of_lt_of_le h (Nat.le_trans hB hsz)) tt pt Au nu cu us w (Nat.le_refl _) hnu (by omega) (TmS.mono y3 fun k h _=>h) yu).mono fun e w' ⟨q9,h1,h2,h3⟩=>⟨q9,h1,h2.mono fun k h _=>h.elim (fun h=>.inl (.inl h)) .inr,h3⟩)
 ·refine ⟨⟨fun τ=>stableE_det _,leans_not⟩,?_⟩
  intro a w O hk
  have e2:a.eval (.tmp 2)=.slice Av nv cv:=(hk.init 2 (initialB_of_nw nw2)).trans hi2
  exact toE (ob_move rfl e2 (wanted_none rfl) rfl)
 ·refine ⟨⟨fun τ=>stableE_tm (fun k hk'=>est2_fix (Nat.lt_of_lt_of_le hk' hB) (fun e=>e.elim) (fun e=>e.elim)),leans_not⟩,?_⟩
  intro a w O hk
  have f87:=hk.fact 2 _ 87 rfl rfl rfl rfl
  have g87:=hk.owns 2 rfl rfl
  have e88:a.eval (.tmp 88)=.slice Av nv cv:=hk.fact 3 _ 88 rfl rfl rfl rfl
  have x3:=hk.world.still hx3 (fun ⟨_,h⟩=>h.elim And.right And.right)
  have hfx:∀ k,k<B→w.heap[k]?=w0.heap[k]?:=fun k hk'=>hk.fix k ((fun k hk'=>est2_fix (Nat.lt_of_lt_of_le hk' hB) (fun e=>e.elim) (fun e=>e.elim)) k hk')
  have hsz:=hk.world.size
  have y3:=hin3.same (w':=w) (fun k hk' _=>hfx k hk')
  have yu:=LvIn.mono (LvS.same (w':=w) hus (fun k hk' _=>hfx k hk')) (Nat.le_trans hB hsz)
  have yv:=LvIn.mono (LvS.same (w':=w) hvs (fun k hk' _=>hfx k hk')) (Nat.le_trans hB hsz)
  have yb:=LvIn.mono (LvS.same (w':=w) hbs (fun k hk' _=>hfx k hk')) (Nat.le_trans hB hsz)
  obtain ⟨q87,z87,h87⟩:=f87
  replace z87:a.eval (.tmp 87)=_:=z87
  exact obE_tmCall #[tmV q87 (InstLvT tt us),.slice Av nv cv] rfl rfl rfl rfl (by simp only [List.map_cons,List.map_nil];rw [z87,e88];try rfl) (wanted_none rfl) ((instLv_calls (fun k=>k<B∨O 2 k) w.heap.size (fun k h=>h.elim (fun h=>Nat.lt_of_lt_of_le h (Nat.le_trans hB hsz)) fun h=>(g87 k h).1) (InstLvT tt us) q87 Av nv cv vs w (Nat.le_refl _) hnv (by omega) (TmS.mono h87 fun k h _=>h.imp id id) yv).mono fun e w' ⟨q9,h1,h2,h3⟩=>⟨q9,h1,h2.mono fun k h _=>h.elim (fun h=>.inl (h.elim .inl fun h=>.inr (.inl ⟨2,by simp [sp21_C],h⟩))) .inr,h3⟩)
 ·refine ⟨⟨fun τ=>stableE_det _,leans_not⟩,?_⟩
  intro a w O hk
  have e3:a.eval (.tmp 3)=.pointer (some ⟨gt,0,none⟩):=(hk.init 3 (initialB_of_nw nw3)).trans hi3
  have x3:=hk.world.still hx3 (fun ⟨_,h⟩=>h.elim And.right And.right)
  have hfx:∀ k,k<B→w.heap[k]?=w0.heap[k]?:=fun k hk'=>hk.fix k ((fun k hk'=>est2_fix (Nat.lt_of_lt_of_le hk' hB) (fun e=>e.elim) (fun e=>e.elim)) k hk')
  have hsz:=hk.world.size
  have y3:=hin3.same (w':=w) (fun k hk' _=>hfx k hk')
  have yu:=LvIn.mono (LvS.same (w':=w) hus (fun k hk' _=>hfx k hk')) (Nat.le_trans hB hsz)
  have yv:=LvIn.mono (LvS.same (w':=w) hvs (fun k hk' _=>hfx k hk')) (Nat.le_trans hB hsz)
  have yb:=LvIn.mono (LvS.same (w':=w) hbs (fun k hk' _=>hfx k hk')) (Nat.le_trans hB hsz)
  exact obE_loadRow rfl e3 x3 Try.underlying28 rfl (by kernel_rfl) (wanted_none rfl) rfl
 ·refine ⟨⟨fun τ=>stableE_det _,leans_not⟩,?_⟩
  intro a w O hk
  have e11:a.eval (.tmp 11)=.slice Ab nb cb:=(hk.init 11 (initialB_of_nw nw11)).trans hi11
  exact toE (ob_move rfl e11 (wanted_none rfl) rfl)
 ·refine ⟨⟨fun τ=>stableE_tm (fun k hk'=>est2_fix (Nat.lt_of_lt_of_le hk' hB) (fun e=>e.elim) (fun e=>e.elim)),leans_not⟩,?_⟩
  intro a w O hk
  have e90:a.eval (.tmp 90)=tmV pt tt:=hk.fact 5 _ 90 rfl rfl rfl rfl
  have e91:a.eval (.tmp 91)=.slice Ab nb cb:=hk.fact 6 _ 91 rfl rfl rfl rfl
  have x3:=hk.world.still hx3 (fun ⟨_,h⟩=>h.elim And.right And.right)
  have hfx:∀ k,k<B→w.heap[k]?=w0.heap[k]?:=fun k hk'=>hk.fix k ((fun k hk'=>est2_fix (Nat.lt_of_lt_of_le hk' hB) (fun e=>e.elim) (fun e=>e.elim)) k hk')
  have hsz:=hk.world.size
  have y3:=hin3.same (w':=w) (fun k hk' _=>hfx k hk')
  have yu:=LvIn.mono (LvS.same (w':=w) hus (fun k hk' _=>hfx k hk')) (Nat.le_trans hB hsz)
  have yv:=LvIn.mono (LvS.same (w':=w) hvs (fun k hk' _=>hfx k hk')) (Nat.le_trans hB hsz)
  have yb:=LvIn.mono (LvS.same (w':=w) hbs (fun k hk' _=>hfx k hk')) (Nat.le_trans hB hsz)
  exact obE_tmCall #[tmV pt tt,.slice Ab nb cb] rfl rfl rfl rfl (by simp only [List.map_cons,List.map_nil];rw [e90,e91];try rfl) (wanted_none rfl) ((instLv_calls (fun k=>k<B) w.heap.size (fun k h=>Nat.lt_of_lt_of_le h (Nat.le_trans hB hsz)) tt pt Ab nb cb bs w (Nat.le_refl _) hnb (by omega) (TmS.mono y3 fun k h _=>h) yb).mono fun e w' ⟨q9,h1,h2,h3⟩=>⟨q9,h1,h2.mono fun k h _=>h.elim (fun h=>.inl (.inl h)) .inr,h3⟩)
 ·refine ⟨⟨fun τ=>stableE_det _,leans_not⟩,?_⟩
  intro a w O hk
  have f89:=hk.fact 4 _ 89 rfl rfl rfl rfl
  have g89:=hk.owns 4 rfl rfl
  have f92:=hk.fact 7 _ 92 rfl rfl rfl rfl
  have g92:=hk.owns 7 rfl rfl
  have x3:=hk.world.still hx3 (fun ⟨_,h⟩=>h.elim And.right And.right)
  have hfx:∀ k,k<B→w.heap[k]?=w0.heap[k]?:=fun k hk'=>hk.fix k ((fun k hk'=>est2_fix (Nat.lt_of_lt_of_le hk' hB) (fun e=>e.elim) (fun e=>e.elim)) k hk')
  have hsz:=hk.world.size
  have y3:=hin3.same (w':=w) (fun k hk' _=>hfx k hk')
  have yu:=LvIn.mono (LvS.same (w':=w) hus (fun k hk' _=>hfx k hk')) (Nat.le_trans hB hsz)
  have yv:=LvIn.mono (LvS.same (w':=w) hvs (fun k hk' _=>hfx k hk')) (Nat.le_trans hB hsz)
  have yb:=LvIn.mono (LvS.same (w':=w) hbs (fun k hk' _=>hfx k hk')) (Nat.le_trans hB hsz)
  obtain ⟨q89,z89,h89⟩:=f89
  replace z89:a.eval (.tmp 89)=_:=z89
  obtain ⟨q92,z92,h92⟩:=f92
  replace z92:a.eval (.tmp 92)=_:=z92
  exact obE_callV #[tmV q89 (InstLvT (InstLvT tt us) vs),tmV q92 (InstLvT tt bs)] rfl rfl rfl rfl (by simp only [List.map_cons,List.map_nil];rw [z89,z92];try rfl) (wanted_none rfl) ((tSame_calls (InstLvT (InstLvT tt us) vs) (InstLvT tt bs) q89 q92 w (TmS.all h89) (TmS.all h92)).mono fun e w' h=>⟨by rw [h.1,hsb],h.2⟩)
 ·refine ⟨⟨fun τ=>stableE_det _,leans_not⟩,?_⟩
  intro a w O hk
  have e93:a.eval (.tmp 93)=.bool true:=hk.fact 8 _ 93 rfl rfl rfl rfl
  have x3:=hk.world.still hx3 (fun ⟨_,h⟩=>h.elim And.right And.right)
  have hfx:∀ k,k<B→w.heap[k]?=w0.heap[k]?:=fun k hk'=>hk.fix k ((fun k hk'=>est2_fix (Nat.lt_of_lt_of_le hk' hB) (fun e=>e.elim) (fun e=>e.elim)) k hk')
  have hsz:=hk.world.size
  have y3:=hin3.same (w':=w) (fun k hk' _=>hfx k hk')
  have yu:=LvIn.mono (LvS.same (w':=w) hus (fun k hk' _=>hfx k hk')) (Nat.le_trans hB hsz)
  have yv:=LvIn.mono (LvS.same (w':=w) hvs (fun k hk' _=>hfx k hk')) (Nat.le_trans hB hsz)
  have yb:=LvIn.mono (LvS.same (w':=w) hbs (fun k hk' _=>hfx k hk')) (Nat.le_trans hB hsz)
  exact obE_run (wanted_none rfl) (by unfold execOp;simp only [];rw [e93];go_simp) rfl
 ·refine ⟨⟨fun τ=>stableE_det _,leans_not⟩,?_⟩
  intro a w O hk
  have e94:a.eval (.tmp 94)=.bool true:=hk.fact 9 _ 94 rfl rfl rfl rfl
  have x3:=hk.world.still hx3 (fun ⟨_,h⟩=>h.elim And.right And.right)
  have hfx:∀ k,k<B→w.heap[k]?=w0.heap[k]?:=fun k hk'=>hk.fix k ((fun k hk'=>est2_fix (Nat.lt_of_lt_of_le hk' hB) (fun e=>e.elim) (fun e=>e.elim)) k hk')
  have hsz:=hk.world.size
  have y3:=hin3.same (w':=w) (fun k hk' _=>hfx k hk')
  have yu:=LvIn.mono (LvS.same (w':=w) hus (fun k hk' _=>hfx k hk')) (Nat.le_trans hB hsz)
  have yv:=LvIn.mono (LvS.same (w':=w) hvs (fun k hk' _=>hfx k hk')) (Nat.le_trans hB hsz)
  have yb:=LvIn.mono (LvS.same (w':=w) hbs (fun k hk' _=>hfx k hk')) (Nat.le_trans hB hsz)
  exact obE_callV #[] rfl rfl rfl rfl rfl (wanted_of rfl rfl rfl e94) (awake_calls w)
 ·refine ⟨⟨fun τ=>stableE_det _,leans_not⟩,?_⟩
  intro a w O hk
  have e94:a.eval (.tmp 94)=.bool true:=hk.fact 9 _ 94 rfl rfl rfl rfl
  have e95:a.eval (.tmp 95)=.bool true:=hk.fact 10 _ 95 rfl rfl rfl rfl
  exact toE (ob_pick rfl e94 e95 (wanted_none rfl) rfl)
 ·refine ⟨⟨fun τ=>stableE_det _,leans_not⟩,?_⟩
  intro a w O hk
  have e96:a.eval (.tmp 96)=.bool true:=hk.fact 11 _ 96 rfl rfl rfl rfl
  exact toE (ob_assign rfl e96 (wanted_none rfl) rfl)
set_option maxRecDepth 100000 in
set_option maxHeartbeats 8000000 in
theorem sp21_region {Q:Exit→Act→World→Prop} {id:Nat} (w0:World) (B:Nat) (gt:Nat) (pt:Pl) (tt:Tm) (Au:Option Addr) (nu cu:Nat) (us:List Lv) (Av:Option Addr) (nv cv:Nat) (vs:List Lv) (Ab:Option Addr) (nb cb:Nat) (bs:List Lv) {s0 s4 s5 s6 s7 s8 s9 s10 s12 s13 s14 s15 s16 s17 s18 s19 s20 s21 s22 s23 s24 s25 s26 s27 s28 s29 s30 s31 s32 s33 s34 s35 s36 s37 s38 s39 s40 s41 s42 s43 s44 s45 s46 s47 s48 s49 s50 s51 s52 s53 s54 s55 s56 s57 s58 s59 s60 s61 s62 s63 s64 s65 s66 s67 s68 s69 s70 s71 s72 s73 s74 s75 s76 s77 s78 s79 s80 s81 s82 s83 s84 s85 s86 s87 s88 s89 s90 s91 s92 s93 s94 s95 s96:Value} (hB:B≤w0.heap.size) (hx3:w0.heap[gt]?=some (tmO pt tt)) (hin3:TmIn w0 B pt tt) (hus:LvIn w0 B Au cu (.mk 0 0 us)) (hnu:nu=us.length) (h6u:nu≤6) (hvs:LvIn w0 B Av cv (.mk 0 0 vs)) (hnv:nv=vs.length) (h6v:nv≤6) (hbs:LvIn w0 B Ab cb (.mk 0 0 bs)) (hnb:nb=bs.length) (h6b:nb≤6) (hsb:SameT (InstLvT (InstLvT tt us) vs) (InstLvT tt bs)=true)
  (hend:∀ (w':World) (u87:Value) (u89:Value) (u92:Value) (O4:Nat→Prop) (O7:Nat→Prop),Chg (fun k=>False∨False) w0 w'→(TmO (fun k=>k<B) (InstLvT (InstLvT tt us) vs) u89 w' O4)→(∀ k,O4 k→k<w'.heap.size∧¬ Fix w0 (est2 0 0 (fun _=>False) (fun _=>False)) k)→(TmO (fun k=>k<B) (InstLvT tt bs) u92 w' O7)→(∀ k,O7 k→k<w'.heap.size∧¬ Fix w0 (est2 0 0 (fun _=>False) (fun _=>False)) k)→Q .normal { tmps:=(s0 :: (.slice Au nu cu) :: (.slice Av nv cv) :: (.pointer (some ⟨gt,0,none⟩)) :: s4 :: s5 :: (.bool true) :: s7 :: s8 :: s9 :: s10 :: (.slice Ab nb cb) :: s12 :: s13 :: s14 :: s15 :: s16 :: s17 :: s18 :: s19 :: s20 :: s21 :: s22 :: s23 :: s24 :: s25 :: s26 :: s27 :: s28 :: s29 :: s30 :: s31 :: s32 :: s33 :: s34 :: s35 :: s36 :: s37 :: s38 :: s39 :: s40 :: s41 :: s42 :: s43 :: s44 :: s45 :: s46 :: s47 :: s48 :: s49 :: s50 :: s51 :: s52 :: s53 :: s54 :: s55 :: s56 :: s57 :: s58 :: s59 :: s60 :: s61 :: s62 :: s63 :: s64 :: s65 :: s66 :: s67 :: s68 :: s69 :: s70 :: s71 :: s72 :: s73 :: s74 :: s75 :: s76 :: s77 :: s78 :: s79 :: s80 :: s81 :: s82 :: s83 :: s84 :: (tmV pt tt) :: (.slice Au nu cu) :: u87 :: (.slice Av nv cv) :: u89 :: (tmV pt tt) :: (.slice Ab nb cb) :: u92 :: (.bool true) :: (.bool true) :: (.bool true) :: (.bool true) :: []:List Value).toArray,defers:=[] } w') :
  (Code.region id sp21_ops.toArray true).wp Try.prog Q { tmps:=(s0 :: (.slice Au nu cu) :: (.slice Av nv cv) :: (.pointer (some ⟨gt,0,none⟩)) :: s4 :: s5 :: s6 :: s7 :: s8 :: s9 :: s10 :: (.slice Ab nb cb) :: s12 :: s13 :: s14 :: s15 :: s16 :: s17 :: s18 :: s19 :: s20 :: s21 :: s22 :: s23 :: s24 :: s25 :: s26 :: s27 :: s28 :: s29 :: s30 :: s31 :: s32 :: s33 :: s34 :: s35 :: s36 :: s37 :: s38 :: s39 :: s40 :: s41 :: s42 :: s43 :: s44 :: s45 :: s46 :: s47 :: s48 :: s49 :: s50 :: s51 :: s52 :: s53 :: s54 :: s55 :: s56 :: s57 :: s58 :: s59 :: s60 :: s61 :: s62 :: s63 :: s64 :: s65 :: s66 :: s67 :: s68 :: s69 :: s70 :: s71 :: s72 :: s73 :: s74 :: s75 :: s76 :: s77 :: s78 :: s79 :: s80 :: s81 :: s82 :: s83 :: s84 :: s85 :: s86 :: s87 :: s88 :: s89 :: s90 :: s91 :: s92 :: s93 :: s94 :: s95 :: s96 :: []:List Value).toArray,defers:=[] } w0:=by
 refine wp_region_est (by kernel_rfl) (est2 0 0 (fun _=>False) (fun _=>False)) sp21_C (sp21_F w0 B gt pt tt Au nu cu us Av nv cv vs Ab nb cb bs) (est2_dis (fun _ h _=>h)) (est2_range (fun _ h=>h.elim) (fun _ h=>h.elim)) (by rfl) (by kernel_rfl) (sp21_obs w0.drew B gt pt tt Au nu cu us Av nv cv vs Ab nb cb bs hB hx3 (TmS.same hin3 (fun _ _ _=>rfl)) (LvS.same hus (fun _ _ _=>rfl)) hnu h6u (LvS.same hvs (fun _ _ _=>rfl)) hnv h6v (LvS.same hbs (fun _ _ _=>rfl)) hnb h6b hsb _ _ rfl rfl rfl rfl) ?_
 intro a w' O hd hs hb hf hf2 ha hsame
 have hl:=slots_eq (ops:=sp21_ops.toArray) [(6,.bool true),(85,tmV pt tt),(86,.slice Au nu cu),(87,a.tmps.getD 87 undef),(88,.slice Av nv cv),(89,a.tmps.getD 89 undef),(90,tmV pt tt),(91,.slice Ab nb cb),(92,a.tmps.getD 92 undef),(93,.bool true),(94,.bool true),(95,.bool true),(96,.bool true)] (show a.tmps.size=97 from hs) (fun i h=>hsame i h) ⟨(hf 12 _ 6 rfl rfl (by decide)).1,(hf 0 _ 85 rfl rfl (by decide)).1,(hf 1 _ 86 rfl rfl (by decide)).1,rfl,(hf 3 _ 88 rfl rfl (by decide)).1,rfl,(hf 5 _ 90 rfl rfl (by decide)).1,(hf 6 _ 91 rfl rfl (by decide)).1,rfl,(hf 8 _ 93 rfl rfl (by decide)).1,(hf 9 _ 94 rfl rfl (by decide)).1,(hf 10 _ 95 rfl rfl (by decide)).1,(hf 11 _ 96 rfl rfl (by decide)).1,trivial⟩ (by kernel_rfl)
 obtain ⟨tmps,defers⟩:=a
 obtain rfl:defers=[]:=hd
 have hl':tmps=_:=hl
 rw [hl']
 have hb':=est2_chg hb
 refine Eq.mp ?_ (hend w' (tmps.getD 87 undef) (tmps.getD 89 undef) (tmps.getD 92 undef) (O 4) (O 7) ⟨hb'.os,hb'.tape,hb'.output,hb'.size,hb'.block⟩ (hf 4 _ 89 rfl rfl (by decide)).1 (hf 4 _ 89 rfl rfl (by decide)).2 (hf 7 _ 92 rfl rfl (by decide)).1 (hf 7 _ 92 rfl rfl (by decide)).2)
 kernel_rfl

end Go.Proofs.Ytdboloabpjmgaaa

namespace Go.Proofs.Ytdboloabpjmgaaa
open Go.RowKit Go.Proofs.YtdboloabpjmgaaaW.PrintWords Go.RegionInvYtdboloabpjmgaaa Go.RegionEYtdboloabpjmgaaa

structure SpX (w W:World) (p:Pl) (t:Tm):Prop where
 box:W.heap[w.heap.size]?=some (tmO p t)
 tm:TmIn W w.heap.size p t
 bel:Below w.heap.size w W
theorem SpX.later {w W W':World} {p:Pl} {t:Tm} (h:SpX w W p t) (hb:Below W.heap.size W W'):SpX w W' p t:=
 ⟨(hb.block _ (blk_lt h.box)).trans h.box,h.tm.stay (hb.mono h.bel.size),below_then h.bel h.bel.size hb⟩
theorem both_next (us vs:List Lv) (k:Nat) (hk:k<6):(bothL us vs).take (k+1)=(bothL us vs).take k ++ [instL vs (forL us k)]:=by
 have e:(bothL us vs)[k]?=some (instL vs (forL us k)):=by
  unfold bothL
  rw [List.getElem?_map,List.getElem?_range hk];rfl
 rw [List.take_add_one,e];rfl
theorem both_take_len (us vs:List Lv) (k:Nat) (hk:k≤6):((bothL us vs).take k).length=k:=by rw [List.length_take,both_len];omega
theorem sp_len (N:Nat):∀ (t:Tm),SizeOf.sizeOf t<N→(spA t).length+1≤depthT t:=by
 induction N with
 | zero=>intro t h;omega
 | succ N ih =>
  intro t hN
  by_cases h:t.kind=6∧nK t≠0
  ·obtain ⟨-,z0,d0,-⟩:=app_kid h (i:=0) (by decide)
   have:=ih (kidD t 0) (by omega)
   rw [spA_app h]
   simp
   omega
  ·rw [spA_end h]
   have:=depth_pos t
   simp
   omega
theorem grown_below {lo n size:Nat} {w W w1:World} {V:Value} {e:TypeId} {cells:List Value} (hz:lo≤w.heap.size) (hb:Below lo w W) (hg:W.grownBy w1 V.ownBlock) (ho:W.ownsRow lo e size V n cells):Below lo w w1:=
 ⟨hg.os.trans hb.os,hg.tape.trans hb.tape,hg.output.trans hb.output,Nat.le_trans hb.size hg.size,fun i hi=>(hg.block i (Nat.lt_of_lt_of_le hi (Nat.le_trans hz hb.size)) (fun e=>by have:=own_base ho i e.symm;omega)).trans (hb.block i hi)⟩
set_option maxRecDepth 100000 in
set_option maxHeartbeats 8000000 in
theorem termSpines_calls (t:Tm) (p:Pl) (Au:Option Addr) (nu cu:Nat) (us:List Lv) (Av:Option Addr) (nv cv:Nat) (vs:List Lv) (w:World) (hin:TmIn w w.heap.size p t) (hus:LvIn w w.heap.size Au cu (.mk 0 0 us)) (hnu:nu=us.length) (hvs:LvIn w w.heap.size Av cv (.mk 0 0 vs)) (hnv:nv=vs.length) :
  Calls Try.prog 13 #[tmV p t,.slice Au nu cu,.slice Av nv cv] w fun e w'=>e=.returned (.bool true)∧Below w.heap.size w w':=by
 obtain ⟨W,hW⟩:∃ W,W=w.alloc (tmO p t):=⟨_,rfl⟩
 have hb:Below w.heap.size w W:=by rw [hW];exact below_alloc (Below.refl _ _) _
 have H0:=Ak (show SpX w W p t from ⟨by rw [hW];exact blk_new _ _,hin.stay hb,hb⟩)
 obtain ⟨W1,hW1⟩:∃ W1,W1=W.alloc (.cells (tmC p t).toArray 28 (0,0)):=⟨_,rfl⟩
 have hb1:Below W.heap.size W W1:=by rw [hW1];exact below_alloc (Below.refl _ _) _
 have H1:=Ak (H0.out.later hb1)
 have HR1:=Ak (show W1.heap[W.heap.size]?=some (.cells (tmC p t).toArray 28 (0,0)) by rw [hW1];exact blk_new _ _)
 have hW1':W1=_:=hW1
 simp only [tmC] at hW1'
 have HU:=Ak hus
 have HV:=Ak hvs
 have HNU:=Ak hnu
 have HNV:=Ak hnv
 have hu9:nu≤9223372036854775807:=by have:=hus.len;simp [Lv.kids] at this;omega
 have hv9:nv≤9223372036854775807:=by have:=hvs.len;simp [Lv.kids] at this;omega
 clear hin hb hb1 hW1 hus hvs hnu hnv
 unfold tmV
 unfold tmO at hW
 go_enter Try.func13,Try.ntmps13
 go_upto_region 1 with (fail)
 rw [← hW]
 clear hW
 obtain ⟨wb,hwb⟩:∃ x,wholeB [t]=x:=⟨_,rfl⟩
 have HWB:=Ak hwb
 cases wb with
 | false =>
  clear hwb
  go_upto_if 27 with (first
   | (refine wpList_load_row rfl 28 _ rfl (w.heap.size) rfl 28 _ (0,0) _ H0.out.box Try.underlying28 rfl (by kernel_rfl) ?_)
   | (go_at_call 36;go_must (rw [← hW1'];clear hW1';refine (whole_calls w.heap.size (some ⟨W.heap.size,0,none⟩) 1 1 _ [t] W1 H1.out.bel.size rfl (by decide) (one_term_row HR1.out H1.out.tm)).mono ?_;rw [HWB.out];rintro e w1 ⟨rfl,hb⟩;have HS1:=Ak (H1.out.later hb);clear hb)))
  go_wp2_with (go_at_call 25;go_must (refine (awake_calls w1).mono ?_;rintro e w9 ⟨rfl,hb⟩;have H9:=Ak (below_then HS1.out.bel HS1.out.bel.size hb);clear hb))
  go_ret
  exact ⟨rfl,H9.out⟩
 | true =>
  have HWT:=Ak (whole_of (of_decide_eq_true (List.all_eq_true.1 hwb t (by simp))))
  clear hwb
  by_cases hu6:(6:Int)<(nu:Int)
  ·go_upto_if 27 with (first
    | (refine wpList_load_row rfl 28 _ rfl (w.heap.size) rfl 28 _ (0,0) _ H0.out.box Try.underlying28 rfl (by kernel_rfl) ?_)
    | (go_at_call 36;go_must (rw [← hW1'];clear hW1';refine (whole_calls w.heap.size (some ⟨W.heap.size,0,none⟩) 1 1 _ [t] W1 H1.out.bel.size rfl (by decide) (one_term_row HR1.out H1.out.tm)).mono ?_;rw [HWB.out];rintro e w1 ⟨rfl,hb⟩;have HS1:=Ak (H1.out.later hb);clear hb)))
   go_wp2_with (go_at_call 25;go_must (refine (awake_calls w1).mono ?_;rintro e w9 ⟨rfl,hb⟩;have H9:=Ak (below_then HS1.out.bel HS1.out.bel.size hb);clear hb))
   go_ret
   exact ⟨rfl,H9.out⟩
  by_cases hv6:(6:Int)<(nv:Int)
  ·go_upto_if 27 with (first
    | (refine wpList_load_row rfl 28 _ rfl (w.heap.size) rfl 28 _ (0,0) _ H0.out.box Try.underlying28 rfl (by kernel_rfl) ?_)
    | (go_at_call 36;go_must (rw [← hW1'];clear hW1';refine (whole_calls w.heap.size (some ⟨W.heap.size,0,none⟩) 1 1 _ [t] W1 H1.out.bel.size rfl (by decide) (one_term_row HR1.out H1.out.tm)).mono ?_;rw [HWB.out];rintro e w1 ⟨rfl,hb⟩;have HS1:=Ak (H1.out.later hb);clear hb)))
   go_wp2_with (go_at_call 25;go_must (refine (awake_calls w1).mono ?_;rintro e w9 ⟨rfl,hb⟩;have H9:=Ak (below_then HS1.out.bel HS1.out.bel.size hb);clear hb))
   go_ret
   exact ⟨rfl,H9.out⟩
  go_upto_region 3 with (first
   | (refine wpList_load_row rfl 28 _ rfl (w.heap.size) rfl 28 _ (0,0) _ H0.out.box Try.underlying28 rfl (by kernel_rfl) ?_)
   | (go_at_call 36;go_must (rw [← hW1'];clear hW1';refine (whole_calls w.heap.size (some ⟨W.heap.size,0,none⟩) 1 1 _ [t] W1 H1.out.bel.size rfl (by decide) (one_term_row HR1.out H1.out.tm)).mono ?_;rw [HWB.out];rintro e w1 ⟨rfl,hb⟩;have HS1:=Ak (H1.out.later hb);clear hb)))
  clear H0 H1 HR1
  have hu6':nu≤6:=by omega
  have hv6':nv≤6:=by omega
  obtain ⟨xs,hxs⟩:∃ xs,xs=us ++ vs:=⟨_,rfl⟩
  obtain ⟨n4,hn4⟩:∃ n,n=xs.length:=⟨_,rfl⟩
  have hn12:n4≤12:=by have:=HNU.out;have:=HNV.out;rw [hn4,hxs,List.length_append];omega
  have HXS:=Ak hxs
  have HN4:=Ak hn4
  clear hxs hn4
  go_upto_block 0 with (first
   | (refine lv_app (T:=fun k=>k<w.heap.size) (lo:=w1.heap.size) (xs:=[]) (ys:=us) rfl (.const (.slice none 0 0)) (.tmp 29) rfl rfl rfl HNU.out (KidsL.nil _ _ _) (HU.out.stay HS1.out.bel) (Nat.le_refl _) (fun k h=>Nat.lt_of_lt_of_le h HS1.out.bel.size) (by have:=HNU.out;simp;omega) ?_;intro V3 w3 hk3 hb3;rw [List.nil_append] at hk3;obtain ⟨A3,c3,rfl,-⟩:=hk3.level;rw [← HNU.out] at hk3 ⊢;have HK3:=Ak hk3;have HB3:=Ak hb3;clear hk3 hb3)
   | (refine lv_app (T:=fun k=>k<w.heap.size) (lo:=w1.heap.size) (xs:=us) (ys:=vs) rfl (.tmp 30) (.tmp 31) rfl rfl rfl HNV.out HK3.out (HV.out.stay (below_then HS1.out.bel HS1.out.bel.size HB3.out)) HB3.out.size (fun k h=>Nat.lt_of_lt_of_le h HS1.out.bel.size) (by have:=HNU.out;have:=HNV.out;omega) ?_;intro V4 w4 hk4 hb4;rw [← HXS.out] at hk4;obtain ⟨A4,c4,rfl,hl4⟩:=hk4.level;rw [← HN4.out];have HL4:=Ak hl4;have HB4:=Ak hb4;clear hk4 hb4 hl4))
  have HS4:=Ak (HS1.out.later (HB3.out.trans HB4.out))
  have HL:=Ak HL4.out.all
  clear HS1 HK3 HB3 HB4 HL4
  go_wp2
  go_loopw [34] (fun i wr=>∃ (k:Nat),i=.int .i64 k∧k≤n4∧Aside0 (Below w4.heap.size w4 wr)∧Aside0 (∀ (j:Nat) (x:Lv),j<k→xs[j]?=some x→mayB 6 x=0)) (fun i _=>n4 - (intOf i).toNat)
  case atStart=>exact ⟨0,rfl,Nat.zero_le _,⟨Below.refl _ _⟩,⟨fun j x hj=>by omega⟩⟩
  case round =>
   obtain ⟨k,rfl,hk,HBR,HMR⟩:=hrel
   by_cases hlt:k<n4
   ·obtain ⟨x,hx⟩:∃ x,xs[k]?=some x:=⟨_,List.getElem?_eq_getElem (by rw [← HN4.out];exact hlt)⟩
    obtain ⟨A',c',hcs,hxin⟩:=((HL.out).same (w':=wr) fun k hk hz=>HBR.out.block k hk).kid k x hx
    obtain ⟨ad,hAd,hc1,hc2,hc3⟩:=hcs.facts
    obtain ⟨W5,hW5⟩:∃ W5,W5=wr.alloc (.cells #[.int .i64 x.kind,.int .i64 x.num,.slice A' x.kids.length c'] 25 (0,0)):=⟨_,rfl⟩
    have hb5:Below wr.heap.size wr W5:=by rw [hW5];exact below_alloc (Below.refl _ _) _
    have HX5:=Ak (show W5.heap[wr.heap.size]?=some (.cells #[.int .i64 x.kind,.int .i64 x.num,.slice A' x.kids.length c'] 25 (0,0)) by rw [hW5];exact blk_new _ _)
    have HI5:=Ak (show LvIn W5 W5.heap.size A' c' x from (hxin.same fun k hk _=>hb5.block k (Nat.lt_of_lt_of_le hk HBR.out.size)).all)
    have HB5:=Ak (show Below w4.heap.size w4 W5 from below_then HBR.out HBR.out.size hb5)
    have HX:=Ak hx
    obtain ⟨m,hm⟩:∃ m,m=mayB 6 x:=⟨_,rfl⟩
    have HM:=Ak hm
    rw [hAd]
    clear hb5 hcs hxin hx hm hAd
    go_upto_region 6 with (fail)
    rw [← hW5]
    clear hW5 hc1 hc2 hc3
    by_cases hm0:m=0
    ·subst hm0
     go_upto_region 8 with (first
      | (refine wpList_load_row rfl 25 _ rfl (wr.heap.size) rfl 25 _ (0,0) _ HX5.out Try.underlying25 rfl (by kernel_rfl) ?_)
      | (go_at_call 53;go_must (refine (refMay_calls A' c' x 6 W5 HI5.out).mono ?_;rw [← HM.out];rintro e w6 ⟨rfl,hb⟩;have HB6:=Ak (below_then HB5.out HB5.out.size hb);clear hb)))
     go_wp2
     go_roundw
     case rel=>exact ⟨k+1,by go_num,by omega,HB6,⟨fun j y hj hy=>by
      rcases Nat.lt_or_ge j k with h | h
      ·exact HMR.out j y h hy
      ·obtain rfl:j=k:=by omega
       obtain rfl:x=y:=Option.some.inj (HX.out.symm.trans hy)
       exact HM.out.symm⟩⟩
     case measure=>(simp [intOf];try omega)
    ·have hmb:(m == 0)=false:=by simp [hm0]
     go_upto_region 7 with (first
      | (refine wpList_load_row rfl 25 _ rfl (wr.heap.size) rfl 25 _ (0,0) _ HX5.out Try.underlying25 rfl (by kernel_rfl) ?_)
      | (go_at_call 53;go_must (refine (refMay_calls A' c' x 6 W5 HI5.out).mono ?_;rw [← HM.out];rintro e w6 ⟨rfl,hb⟩;have HB6:=Ak (below_then HB5.out HB5.out.size hb);clear hb)))
     go_wp2_with (go_at_call 25;go_must (refine (awake_calls w6).mono ?_;rintro e w9 ⟨rfl,hb⟩;have H9:=Ak (below_then (below_then HS4.out.bel HS4.out.bel.size HB6.out) (below_then HS4.out.bel HS4.out.bel.size HB6.out).size hb);clear hb))
     go_ret
     exact ⟨rfl,H9.out⟩
   ·obtain rfl:k=n4:=by omega
    have hlt':decide ((k:Int)<k)=false:=by simp
    have hall:∀ l∈us ++ vs,mayB 6 l=0:=by
     rw [← HXS.out]
     intro l hl
     obtain ⟨j,hj⟩:=List.getElem?_of_mem hl
     exact HMR.out j l (by rw [HN4.out];exact (List.getElem?_eq_some_iff.1 hj).1) hj
    have HMU:=Ak (show ∀ u∈us,May6 u from fun u h=>may6 (hall u (List.mem_append.2 (.inl h))))
    have HMV:=Ak (show ∀ v∈vs,May6 v from fun v h=>may6 (hall v (List.mem_append.2 (.inr h))))
    have H5:=Ak (HS4.out.later HBR.out)
    obtain ⟨y1,hy1⟩:∃ y,y=ownT (spH t):=⟨_,rfl⟩
    obtain ⟨L1,hL1⟩:∃ L,L=(spA t).map ownT:=⟨_,rfl⟩
    have HSA:=Ak (show SameT (AppsT y1 L1) t=true by rw [hy1,hL1];exact spine_same HWT.out)
    have HSH:=Ak (show y1.kind≠6 by rw [hy1];exact spine_head HWT.out)
    have HL1L:=Ak (show L1.length≤2000 by rw [hL1,List.length_map];have:=sp_len _ t (Nat.lt_succ_self _);have:=HWT.out.depth;omega)
    have HY1:=Ak hy1
    have HL1:=Ak hL1
    clear hy1 hL1 hall HMR HBR HL HS4
    go_upto_region 10 with (first
     | (refine wpList_load_row rfl 28 _ rfl (w.heap.size) rfl 28 _ (0,0) _ H5.out.box Try.underlying28 rfl (by kernel_rfl) ?_)
     | (go_at_call 34;go_must (refine (spine_calls (fun k=>k<wr.heap.size) wr.heap.size (fun k h=>h) t p wr HWT.out.ok (Nat.le_refl _) H5.out.tm.all).mono ?_;rw [← HY1.out,← HL1.out];rintro e w10 ⟨r1,A1,n1,c1,qq1,rfl,hn1,ht1,hr1,hb⟩;have HN1:=Ak hn1;have HT1:=Ak (TmS.all ht1);have HR1:=Ak (hr1.mono (S':=fun k=>k<w10.heap.size) fun k _ hz=>hz);have H10:=Ak (H5.out.later hb);clear hn1 ht1 hr1 hb;unfold tmV)))
    obtain ⟨W11,hW11⟩:∃ W11,W11=w10.alloc (tmO r1 y1):=⟨_,rfl⟩
    have hb11:Below w10.heap.size w10 W11:=by rw [hW11];exact below_alloc (Below.refl _ _) _
    have hbx:W11.heap[w10.heap.size]?=some (tmO r1 y1):=by rw [hW11];exact blk_new _ _
    have HX11:=Ak hbx
    have HT11:=Ak (HT1.out.stay hb11).all
    have HR11:=Ak (show TmsS W11 (fun k=>k<W11.heap.size) A1 qq1 L1 from (HR1.out.same fun k hk _=>hb11.block k hk).mono fun k _ hz=>hz)
    have H11:=Ak (H10.out.later hb11)
    unfold tmO at hW11
    rw [← hW11]
    clear hW11 hb11 hbx HT1 HR1 H10 H5
    refine sp10_region W11 W11.heap.size w10.heap.size r1 y1 w.heap.size p t A1 n1 c1 qq1 L1 (Nat.le_refl _) HX11.out HT11.out H11.out.box H11.out.tm.all HR11.out HN1.out (by rw [HN1.out];exact HL1L.out) HSA.out HSH.out (same_twice HWT.out) ?_
    intro w12 u50 O2 hch _ _
    have H12:=Ak (H11.out.later (hch.below (fun _ h=>h.elim False.elim False.elim) (Nat.le_refl _)))
    clear hch HR11 HT11 HX11 H11 HSA HSH HL1L HY1 HL1 HN1
    go_wp2
    go_loopw [11,65] (fun V i wr=>∃ (k:Nat),i=.int .i64 k∧k≤6∧Aside0 (Below w12.heap.size w12 wr)∧Aside0 (KidsL wr (fun _=>False) w12.heap.size V ((bothL us vs).take k))) (fun _ i _=>6 - (intOf i).toNat)
    case atStart=>exact ⟨0,rfl,by decide,⟨Below.refl _ _⟩,⟨KidsL.nil _ _ _⟩⟩
    case round =>
     obtain ⟨k,rfl,hk,HBR,HK⟩:=hrel
     obtain ⟨Ab,cb,hV,-⟩:=HK.out.level
     rw [both_take_len _ _ _ hk] at hV
     subst hV
     by_cases hlt:k<6
     ·have hk6:decide ((k:Int)<6)=true:=decide_eq_true (by omega)
      have hkw:wrap64 (k:Int)=k:=by unfold wrap64;omega
      obtain ⟨W13,hW13⟩:∃ W13,W13=wr.alloc (.cells #[.int .i64 2,.int .i64 k,.slice none 0 0] 25 (0,0)):=⟨_,rfl⟩
      have hb13:Below wr.heap.size wr W13:=by rw [hW13];exact below_alloc (Below.refl _ _) _
      have hx13:W13.heap[wr.heap.size]?=some (.cells #[.int .i64 2,.int .i64 k,.slice none 0 0] 25 (0,0)):=by rw [hW13];exact blk_new _ _
      have HX13:=Ak hx13
      have H13:=Ak (H12.out.later (below_then HBR.out HBR.out.size hb13))
      have HK13:=Ak (HK.out.later hb13)
      have HB13:=Ak hb13
      go_upto_region 17 with (fail)
      rw [← hW13]
      clear hW13 hb13
      by_cases hku:k<nu
      ·obtain ⟨u,hu⟩:∃ x,us[k]?=some x:=⟨_,List.getElem?_eq_getElem (by rw [← HNU.out];exact hku)⟩
       obtain ⟨A',c',hcs,huin⟩:=(HU.out.stay H13.out.bel).kid k u hu
       obtain ⟨ad,rfl,hc1,hc2,hc3⟩:=hcs.facts
       have HFU:=Ak (show forL us k=u by unfold forL;rw [if_pos (by rw [← HNU.out];exact hku)];unfold lvAt;rw [Int.toNat_natCast,List.getD_eq_getElem?_getD,hu];rfl)
       obtain ⟨r0,r1',r2,f0,f1,f2⟩:=row3 hx13
       clear hcs hu hx13
       go_upto_region 19 with (fail)
       obtain ⟨W14,hW14⟩:∃ W14,W14=((W13.setCell ⟨wr.heap.size,0,none⟩ (.int .i64 u.kind)).setCell ⟨wr.heap.size,1,none⟩ (.int .i64 u.num)).setCell ⟨wr.heap.size,2,none⟩ (.slice A' u.kids.length c'):=⟨_,rfl⟩
       have hch:=chg_set3' W13 wr.heap.size 0 1 2 (.int .i64 u.kind) (.int .i64 u.num) (.slice A' u.kids.length c')
       rw [← hW14] at hch
       have HB14:=Ak (show Below wr.heap.size wr W14 from Chg.trans_below HB13.out hch (fun _ e=>Nat.le_of_eq e.symm) HB13.out.size)
       have HX14:=Ak (show W14.heap[wr.heap.size]?=some (.cells #[.int .i64 u.kind,.int .i64 u.num,.slice A' u.kids.length c'] 25 (0,0)) by rw [hW14];exact blk_put (blk_put (blk_put HX13.out 0 _ rfl) 1 _ rfl) 2 _ rfl)
       have HI14:=Ak (show LvIn W14 W14.heap.size A' c' u from (huin.same fun j hj _=>hch.block j (by have:=H13.out.bel.size;have:=HB13.out.size;omega) (by have:=H12.out.bel.size;have:=HBR.out.size;omega)).all)
       rw [← hW14]
       clear hW14 hch huin hc1 hc2 hc3 r0 r1' r2 f0 f1 f2
       obtain ⟨y,hy⟩:∃ y,y=instL vs u:=⟨_,rfl⟩
       have HY:=Ak hy
       have HBX:=Ak (show (bothL us vs).take (k+1)=(bothL us vs).take k ++ [y] by rw [both_next us vs k hlt,HFU.out,hy])
       have HTL:=Ak (both_take_len us vs k hk)
       have H14:=Ak (H12.out.later (below_then HBR.out HBR.out.size HB14.out))
       have HK14:=Ak (HK.out.later HB14.out)
       have HV14:=Ak (show LvIn W14 W14.heap.size Av cv (.mk 0 0 vs) from (HV.out.stay H14.out.bel).all)
       have hz14:w12.heap.size≤W14.heap.size:=Nat.le_trans HBR.out.size HB14.out.size
       clear hy HK13 H13 HX13 HB13
       go_upto_region 20 with (first
        | (refine wpList_load_row rfl 25 _ rfl (wr.heap.size) rfl 25 _ (0,0) _ HX14.out Try.underlying25 rfl (by kernel_rfl) ?_)
        | (go_at_call 54;go_must (refine (refInst_calls A' c' u Av nv cv vs W14 HI14.out HV14.out HNV.out).mono ?_;rw [← HY.out];rintro e w15 ⟨A6,c6,rfl,hl6,hb⟩;obtain ⟨W16,hW16⟩:∃ W16,W16=w15.alloc (.cells #[.int .i64 y.kind,.int .i64 y.num,.slice A6 y.kids.length c6] 25 (0,0)):=⟨_,rfl⟩;have hb16:Below w15.heap.size w15 W16:=(by rw [hW16];exact below_alloc (Below.refl _ _) _);have HB16:=Ak (below_then hb hb.size hb16);have HR16:=Ak (show W16.heap[w15.heap.size]?=some (.cells #[.int .i64 y.kind,.int .i64 y.num,.slice A6 y.kids.length c6] 25 (0,0)) from (by rw [hW16];exact blk_new _ _));have HL6:=Ak (hl6.later hb16);have hz15:=hb.size;have hz16:=hb16.size;obtain ⟨cells,fA,fc,hown,hkids⟩:=HK14.out.later HB16.out;have hownk:=hown;rw [HTL.out] at hownk;have HOWN:=Ak hown;have HOWNK:=Ak hownk;have HKID:=Ak hkids;clear hl6 hb hb16 hown hownk hkids;unfold lvV))
        | (rw [← hW16];refine print_append_at w12.heap.size rfl (.tmp 78) (.tmp 82) 23 25 _ 3 40 rfl Try.underlying23 infoLv rfl (by decide) (by decide) (.slice Ab k cb) k cells [.int .i64 y.kind,.int .i64 y.num,.slice A6 y.kids.length c6] rfl rfl HR16.out rfl (List.all_eq_true.1 rfl) HOWNK.out (by omega) (by omega) ?_;intro v1 w17 ho1 hg hat;have HG7:=Ak hg;have HO7:=Ak ho1;have HA7:=Ak hat;clear ho1 hg hat))
       have HK7:=Ak (KidsL.push (fun b hb=>hb.elim) HOWN.out HKID.out (HL6.out.mono fun j hj hz=>.inr (hj.elim False.elim fun hj=>⟨by omega,fun e=>by have:=own_lt HK14.out.choose_spec.choose_spec.choose_spec.1 j e;omega⟩)) (by rw [HTL.out];exact HO7.out) HG7.out HA7.out)
       have HB7:=Ak (grown_below (Nat.le_refl _) (below_then HBR.out HBR.out.size (below_then HB14.out HB14.out.size HB16.out)) HG7.out HOWN.out)
       rw [← HBX.out] at HK7
       clear hW16 HOWN HOWNK HKID HL6 HO7 HG7 HA7 HR16 HB16 HX14 HI14 HV14 HK14 H14
       go_wp2
       go_roundw
       case rel=>exact ⟨k+1,by go_num,by omega,HB7,HK7⟩
       case measure=>(simp [intOf];try omega)
      ·obtain ⟨u,hu⟩:∃ u,u=Lv.mk 2 k []:=⟨_,rfl⟩
       obtain ⟨W14,hW14⟩:∃ W14,W14=W13:=⟨_,rfl⟩
       have HFU:=Ak (show forL us k=u by unfold forL;rw [if_neg (by rw [← HNU.out];exact hku),hu])
       have HB14:=Ak (show Below wr.heap.size wr W14 by rw [hW14];exact HB13.out)
       have HX14:=Ak (show W14.heap[wr.heap.size]?=some (.cells #[.int .i64 u.kind,.int .i64 u.num,.slice none u.kids.length 0] 25 (0,0)) by rw [hW14,hu];exact hx13)
       have HI14:=Ak (show LvIn W14 W14.heap.size none 0 u by rw [hu];exact .mk (fun _=>none) (fun _=>0) (by simp) (by omega) (fun i x h=>by simp at h) (fun i x h=>by simp at h))
       go_upto_region 19 with (fail)
       rw [← hW14]
       clear hW14 hu hx13
       obtain ⟨y,hy⟩:∃ y,y=instL vs u:=⟨_,rfl⟩
       have HY:=Ak hy
       have HBX:=Ak (show (bothL us vs).take (k+1)=(bothL us vs).take k ++ [y] by rw [both_next us vs k hlt,HFU.out,hy])
       have HTL:=Ak (both_take_len us vs k hk)
       have H14:=Ak (H12.out.later (below_then HBR.out HBR.out.size HB14.out))
       have HK14:=Ak (HK.out.later HB14.out)
       have HV14:=Ak (show LvIn W14 W14.heap.size Av cv (.mk 0 0 vs) from (HV.out.stay H14.out.bel).all)
       have hz14:w12.heap.size≤W14.heap.size:=Nat.le_trans HBR.out.size HB14.out.size
       clear hy HK13 H13 HX13 HB13
       go_upto_region 20 with (first
        | (refine wpList_load_row rfl 25 _ rfl (wr.heap.size) rfl 25 _ (0,0) _ HX14.out Try.underlying25 rfl (by kernel_rfl) ?_)
        | (go_at_call 54;go_must (refine (refInst_calls none 0 u Av nv cv vs W14 HI14.out HV14.out HNV.out).mono ?_;rw [← HY.out];rintro e w15 ⟨A6,c6,rfl,hl6,hb⟩;obtain ⟨W16,hW16⟩:∃ W16,W16=w15.alloc (.cells #[.int .i64 y.kind,.int .i64 y.num,.slice A6 y.kids.length c6] 25 (0,0)):=⟨_,rfl⟩;have hb16:Below w15.heap.size w15 W16:=(by rw [hW16];exact below_alloc (Below.refl _ _) _);have HB16:=Ak (below_then hb hb.size hb16);have HR16:=Ak (show W16.heap[w15.heap.size]?=some (.cells #[.int .i64 y.kind,.int .i64 y.num,.slice A6 y.kids.length c6] 25 (0,0)) from (by rw [hW16];exact blk_new _ _));have HL6:=Ak (hl6.later hb16);have hz15:=hb.size;have hz16:=hb16.size;obtain ⟨cells,fA,fc,hown,hkids⟩:=HK14.out.later HB16.out;have hownk:=hown;rw [HTL.out] at hownk;have HOWN:=Ak hown;have HOWNK:=Ak hownk;have HKID:=Ak hkids;clear hl6 hb hb16 hown hownk hkids;unfold lvV))
        | (rw [← hW16];refine print_append_at w12.heap.size rfl (.tmp 78) (.tmp 82) 23 25 _ 3 40 rfl Try.underlying23 infoLv rfl (by decide) (by decide) (.slice Ab k cb) k cells [.int .i64 y.kind,.int .i64 y.num,.slice A6 y.kids.length c6] rfl rfl HR16.out rfl (List.all_eq_true.1 rfl) HOWNK.out (by omega) (by omega) ?_;intro v1 w17 ho1 hg hat;have HG7:=Ak hg;have HO7:=Ak ho1;have HA7:=Ak hat;clear ho1 hg hat))
       have HK7:=Ak (KidsL.push (fun b hb=>hb.elim) HOWN.out HKID.out (HL6.out.mono fun j hj hz=>.inr (hj.elim False.elim fun hj=>⟨by omega,fun e=>by have:=own_lt HK14.out.choose_spec.choose_spec.choose_spec.1 j e;omega⟩)) (by rw [HTL.out];exact HO7.out) HG7.out HA7.out)
       have HB7:=Ak (grown_below (Nat.le_refl _) (below_then HBR.out HBR.out.size (below_then HB14.out HB14.out.size HB16.out)) HG7.out HOWN.out)
       rw [← HBX.out] at HK7
       clear hW16 HOWN HOWNK HKID HL6 HO7 HG7 HA7 HR16 HB16 HX14 HI14 HV14 HK14 H14
       go_wp2
       go_roundw
       case rel=>exact ⟨k+1,by go_num,by omega,HB7,HK7⟩
       case measure=>(simp [intOf];try omega)
     ·obtain rfl:k=6:=by omega
      have HB:=Ak (show (bothL us vs).take 6=bothL us vs from List.take_of_length_le (Nat.le_of_eq (both_len us vs)))
      have HKB:=Ak (show KidsL wr (fun _=>False) w12.heap.size (.slice Ab 6 cb) (bothL us vs) by have:=HK.out;rwa [HB.out] at this)
      obtain ⟨Ab',cb',hVV,hlb⟩:=HKB.out.level
      have hq:Ab=Ab'∧cb=cb':=by
       rw [both_len] at hVV
       simp only [Value.slice.injEq] at hVV
       exact ⟨hVV.1,hVV.2.2⟩
      obtain ⟨rfl,rfl⟩:=hq
      have HLB:=Ak hlb.all
      have H20:=Ak (H12.out.later HBR.out)
      have HSB:=Ak (spines_levels (t:=t) HWT.out HMU.out HMV.out (by rw [← HNU.out];exact hu6'))
      have h66:decide ((6:Int)<6)=false:=by decide
      clear hVV hlb HB HKB HK HBR
      go_upto_region 21 with (fail)
      refine sp21_region wr wr.heap.size w.heap.size p t Au nu cu us Av nv cv vs Ab 6 cb (bothL us vs) (Nat.le_refl _) H20.out.box H20.out.tm.all (HU.out.stay H20.out.bel).all HNU.out hu6' (HV.out.stay H20.out.bel).all HNV.out hv6' HLB.out (both_len us vs).symm (by decide) HSB.out ?_
      intro w30 u87 u89 u92 O4 O7 hch _ _ _ _
      have H30:=Ak (H20.out.later (hch.below (fun _ h=>h.elim False.elim False.elim) (Nat.le_refl _)))
      clear hch
      go_wp2
      go_ret
      exact ⟨rfl,H30.out.bel⟩
end Go.Proofs.Ytdboloabpjmgaaa
