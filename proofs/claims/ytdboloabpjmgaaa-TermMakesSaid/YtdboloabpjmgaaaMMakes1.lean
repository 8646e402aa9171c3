/-
  Merged: WWords, Region, Lv, WLast, Ops, LvA, LvS, LvW, LvK, LvC, Tm, TmK, FoMe, LvO, Meas, Leaf, RegE, OpsE, OpsC, LeafR, OwnLv, KidS, Node, RegI, RebO, RebR, Cnt, RebP.
-/
import Derived.Below
import Derived.Deep.Draws
import Derived.Deep.AppendLies
import Derived.Maps.AppendAt
import Derived.OwnWalk
import Derived.Laws.BytesArg
import Derived.Laws.MakeOwn
import Derived.Laws.OwnMore
import Derived.Deep.OwnRows
import Derived.Tactics
import Derived.Lib.ConvBytes
import Derived.Laws.Slices
import Derived.WalkKit
import Derived.KernelRfl
import Derived.RowKit3
import Derived.Deep.LoopGhost
import Derived.Deep.QuietTactic
import Derived.BigQuiet
import Derived.WideLaws
import Derived.Deep.DeepCutAuto
import Derived.Deep.CutBlock
import Derived.Deep.RegionHeld3
import Derived.Laws.Rows
import Derived.Lib.AppendStr
import Derived.ArgAppend
import Derived.Laws.IdiomCopy
import Derived.RowKit
import Derived.Orders
import Derived.OrdersHeld
import Derived.Laws.BitsLemmas
import Derived.Test.YtdboloabpjmgaaaProg
import Derived.Deep.DeepMust
import Derived.Deep.RegionLaw
import Derived.RangeFuncNested
import Derived.RangeFuncBound
import Derived.RangeFuncCalls
import Derived.RangeFuncLeaves
import Derived.Shelf.Abstract
import Derived.OwnWalkIn
import Derived.TacticsInMore
import Derived.LoopNIn
import Derived.LoopIn
import Derived.OrdersIn
import Derived.TacticsIn
import Derived.Deep.MidRow
import Derived.Laws.CopyOwn
import Derived.Shelf.Bits.Mul64
import Derived.SizedLaws
import Derived.ChangeSlices
set_option linter.unusedVariables false
set_option linter.unusedSimpArgs false
namespace Go.Proofs.YtdboloabpjmgaaaW.PrintWords
open Go.RowKit

structure Aside0 (p:Prop):Prop where mk :: (out:p)
theorem Ak {p:Prop} (h:p):Aside0 p:=⟨h⟩
def rd (xs:List Int) (i:Int):Int:=xs.getD i.toNat 0
def bt (s:ByteArray) (i:Int):Int:=if h:i.toNat<s.size then ((s[i.toNat]'h).toNat:Int) else 0
theorem below_alloc {w W:World} (h:Below w.heap.size w W) (o:Obj):Below w.heap.size w (W.alloc o):=h.alloc h.size o
theorem below_drew {B:Nat} {w W:World} (h:Below B w W):Below B w W.drew:=⟨h.os,h.tape,h.output,h.size,h.block⟩
theorem pw_below_drewN {B:Nat} {w W:World} (h:Below B w W) (n:Nat):Below B w (W.drewN n):=⟨h.os,h.tape,h.output,h.size,h.block⟩
theorem below_then {B:Nat} {w w1 w2:World} (h:Below B w w1) (hB:B≤w1.heap.size) (k:Below w1.heap.size w1 w2):Below B w w2:=
 h.trans ⟨k.os,k.tape,k.output,k.size,fun i hi=>k.block i (Nat.lt_of_lt_of_le hi hB)⟩
theorem grown_of_below {w w1:World} (h:Below w.heap.size w w1) (row:Option Nat):w.grownBy w1 row:=⟨h.os,h.tape,h.output,h.size,fun i hi _=>h.block i hi⟩
def ReadsInt (w:World) (k:IntKind) (A:Option Addr) (n:Nat) (xs:List Int):Prop:=
 xs.length=n∧n≤9223372036854775807∧(0<n→∃ ad,A=some ad∧∀ j,j<n→w.cell? (ad.add j)=some (.int k (xs.getD j 0)))
theorem own_nil (W:World) (base:Nat) (e:TypeId) (size:Nat):W.ownsRow base e size (.slice none 0 0) 0 []:=⟨by simp,.inl ⟨rfl,rfl⟩⟩
theorem own_base {w:World} {base:Nat} {e:TypeId} {size n:Nat} {v:Value} {xs:List Value} (h:w.ownsRow base e size v n xs) (k:Nat) (hk:v.ownBlock=some k):base≤k:=by
 rcases h.2 with ⟨rfl,_⟩ | ⟨g,cap,cur,rfl,hb,_⟩
 ·simp [Value.ownBlock] at hk
 ·have:g=k:=by simpa [Value.ownBlock] using hk
  omega
theorem own_lt {w:World} {base:Nat} {e:TypeId} {size n:Nat} {v:Value} {xs:List Value} (h:w.ownsRow base e size v n xs) (k:Nat) (hk:v.ownBlock=some k):k<w.heap.size:=by
 rcases h.2 with ⟨rfl,_⟩ | ⟨g,cap,cur,rfl,hb,hh,_⟩
 ·simp [Value.ownBlock] at hk
 ·have:g=k:=by simpa [Value.ownBlock] using hk
  subst this
  exact (Array.getElem?_eq_some_iff.1 hh).1
theorem pw_own_below {w w1:World} {base:Nat} {e:TypeId} {size n:Nat} {v:Value} {xs:List Value} (h:w.ownsRow base e size v n xs) (hb:Below w.heap.size w w1):w1.ownsRow base e size v n xs:=
 h.kept (grown_of_below hb none) (by cases v.ownBlock <;> simp)
theorem own_slice {w:World} {base n:Nat} {e:TypeId} {size:Nat} {v:Value} {xs:List Value} (h:w.ownsRow base e size v n xs):∃ A c,v=.slice A n c:=by
 rcases h.2 with ⟨rfl,rfl⟩ | ⟨g,cap,cur,rfl,_⟩
 ·exact ⟨none,0,rfl⟩
 ·exact ⟨_,cap,rfl⟩
section
variable {P:Program} {ops:Array Oper} {rest:List Oper} {o:Oper} {a:Act} {Q:Exit→Act→World→Prop}

end


def bytesOf (s:ByteArray):List Int:=s.data.toList.map fun b=>(b.toNat:Int)

theorem blk_set {w:World} {g:Nat} {t:TypeId} {cs:Array Value} (h:w.heap[g]?=some (.cells cs t (0,0))) (i:Nat) (u:Value):(w.setCell ⟨g,i,none⟩ u).heap[g]?=some (.cells (cs.setIfInBounds i u) t (0,0)):=by
 simp [World.setCell,Array.getElem?_modify,h]
theorem blk_lt {w:World} {g:Nat} {o:Obj} (h:w.heap[g]?=some o):g<w.heap.size:=(Array.getElem?_eq_some_iff.1 h).1
theorem blk_frozen {w:World} {g:Nat} {t:TypeId} {cs:Array Value} (h:w.heap[g]?=some (.cells cs t (0,0))) (i:Nat):w.frozen? ⟨g,i,none⟩=false:=by simp [World.frozen?,h]
section
variable {P:Program} {ops:Array Oper} {o:Oper} {a:Act} {Q:Exit→Act→World→Prop} {K:Act→World→Prop}
theorem step_append_cells {w0 W:World} (base:Nat) (hw:Region.wanted o (yielded ops a.tmps)=true) (s x:Operand) (t e:TypeId) (z:Value) (size bytes:Nat)
  (ho:o.op=.call { callee:=.builtin .append,args:=#[s,x],argTypes:=#[t,t] })
  (ht:P.underlying t=some (.slice e)) (hinfo:(P.info? e).map (fun i=>(i.zero,i.size,i.bytes))=some (some z,size,bytes)) (hz:z.cells.size=size) (hs0:0<size) (hb0:0<bytes)
  (v:Value) (n:Nat) (xs ys:List Value) (hs:a.eval s=v) (hx:a.eval x=.slice (some ⟨W.heap.size,0,none⟩) 1 1) (hys:ys.length=size) (h1:∀ u∈ys,u.oneCell'=true)
  (HO:W.ownsRow base e size v n xs) (HB:Below base w0 W) (hbase:base≤W.heap.size) (hl:(n+1) * bytes≤140737488355328)
  (h:∀ v1 w1,w1.ownsRow base e size v1 (n+1) (xs ++ ys)→Below base w0 w1→W.grownBy w1 v.ownBlock→(v1.ownBlock=v.ownBlock∨∃ b,v1.ownBlock=some b∧W.heap.size≤b)→K (a.put o.dst v1) w1) :
  if Region.wanted o (yielded ops a.tmps)=true then Oper.wp P o a (W.alloc (.cells ys.toArray e)) K Q else K (a.put o.dst undef) (W.alloc (.cells ys.toArray e)):=by
 obtain ⟨i0,hi,hzz⟩:=Option.map_eq_some_iff.1 hinfo
 simp only [Prod.mk.injEq] at hzz
 obtain ⟨hz0,hz1,hz2⟩:=hzz
 have hlen:n+1≤140737488355328:=Nat.le_trans (Nat.le_mul_of_pos_right _ hb0) hl
 rw [if_pos hw]
 obtain ⟨v1,w1,hr,hown,hg,_,hat⟩:=run_append_own_at (P:=P) (W.alloc (.cells ys.toArray e)) base t o.type e i0 z size bytes ht hi hz0 hz1 hz2 hz hs0 v n xs (HO.alloc _) ⟨W.heap.size,0,none⟩ 1 1 ys (by rw [hys];simp)
  (by simpa using World.news_of_block (cs:=ys.toArray) (t:=e) (fr:=(0,0)) (heap_alloc_new W (.cells ys.toArray e))) h1 (by simp only [maxLen];omega) hl (by simp;omega)
 unfold Oper.wp execOp
 simp only [ho,resolve,invoke,builtin,Sem.run_bind,Sem.run_pure,Result.andThen_ok,List.map_toArray,List.map_cons,List.map_nil,hs,hx,hr]
 refine h v1 w1 hown ((HB.alloc hbase _).grown hg (by simp;omega) (own_base HO)) (World.grownBy.trans (World.grownBy_alloc W _ _) hg) ?_
 rcases hat with hat | hat
 ·exact .inl hat
 ·exact .inr ⟨_,hat,by simp⟩
end

theorem blk_alloc {w:World} {g:Nat} {o:Obj} (h:w.heap[g]?=some o) (o':Obj):(w.alloc o').heap[g]?=some o:=(Below.heap_alloc w o' g (blk_lt h)).trans h
theorem blk_below {w w1:World} {g:Nat} {o:Obj} (h:w.heap[g]?=some o) (hb:Below w.heap.size w w1):w1.heap[g]?=some o:=(hb.block g (blk_lt h)).trans h
theorem blk_new (w:World) (o:Obj):(w.alloc o).heap[w.heap.size]?=some o:=heap_alloc_new w o
section
variable {P:Program}
theorem results_ct {fn:Func} {p u:Tmp} {ty:TypeId} (h:fn.results = #[.cell p ty,.tmp u]) (tmps:Array Value) (w:World) (g:Nat) (t:TypeId) (cs:Array Value) (fr:Nat × Nat) (d:TypeDesc)
  (hp:tmps.getD p undef=.pointer (some ⟨g,0,none⟩)) (hg:w.heap[g]?=some (.cells cs t fr))
  (hu:P.underlying ty=some d) (hd:(match d with | .struct _ | .array _ _=>true | _=>false)=true) (hi:(P.info? ty).map (·.size)=some cs.size) :
  (results fn tmps).run P w=.ok (.tuple #[.agg cs,tmps.getD u undef]) w:=by
 have hp':tmps[p]?.getD undef=.pointer (some ⟨g,0,none⟩):=by simpa using hp
 simp [results,h,hp',asAddr,run_loadVar_row w g t ty cs fr d hg hu hd hi]
end

namespace Kd

end Kd
namespace Kd

end Kd
section
variable {w w1:World} {base n size:Nat} {e:TypeId} {v:Value} {xs:List Value}
theorem setCells_row {g:Nat} {e:TypeId}:∀ (vs:List Value) (o:Nat) (w:World) (cur:Array Value),w.heap[g]?=some (.cells cur e (0,0))→o+vs.length≤cur.size →
  ∃ cur',(w.setCells g o vs).heap[g]?=some (.cells cur' e (0,0))∧cur'.size=cur.size∧cur'.toList=cur.toList.take o ++ vs ++ cur.toList.drop (o+vs.length)
 | [],o,w,cur,h,_=>⟨cur,h,rfl,by simp⟩
 | v :: r,o,w,cur,h,hl=>by
  have h2:=blk_set h o v
  simp only [List.length_cons] at hl
  obtain ⟨cur',h3,h4,h5⟩:=setCells_row r (o+1) (w.setCell ⟨g,o,none⟩ v) _ h2 (by simp;omega)
  refine ⟨cur',h3,by rw [h4];simp,?_⟩
  rw [h5,Array.toList_setIfInBounds]
  have ho:o<cur.toList.length:=by rw [Array.length_toList];omega
  rw [List.take_set,List.drop_set_of_lt (by omega)]
  simp only [List.length_cons]
  rw [show o+1+r.length=o+(r.length+1) by omega]
  congr 1
  rw [List.take_succ_eq_append_getElem ho,List.set_append_right _ _ (by rw [List.length_take];omega)]
  have ho':o<cur.size:=by omega
  simp [Nat.min_eq_left (Nat.le_of_lt ho')]
end
theorem add_block (a:Addr) (i:Nat):(a.add i).block=a.block:=by unfold Addr.add;split <;> rfl
theorem blk_put {w:World} {g:Nat} {t:TypeId} {cs cs':Array Value} (h:w.heap[g]?=some (.cells cs t (0,0))) (i:Nat) (u:Value) (e:cs.setIfInBounds i u=cs'):(w.setCell ⟨g,i,none⟩ u).heap[g]?=some (.cells cs' t (0,0)):=e ▸ blk_set h i u
theorem own_cap {W:World} {base n c:Nat} {e:TypeId} {size:Nat} {A:Option Addr} {xs:List Value} (h:W.ownsRow base e size (.slice A n c) n xs):n≤c:=by
 rcases h.2 with ⟨h1,h2⟩ | ⟨g,cap,cur,h1,_,_,h2,_⟩
 ·injection h1 with _ h3 h4
  omega
 ·injection h1 with _ _ h4
  omega
section
variable {P:Program} {ops:Array Oper} {o:Oper} {a:Act} {Q:Exit→Act→World→Prop} {Kc:Act→World→Prop}
namespace Kd
variable {α:Type}
end Kd
end

end Go.Proofs.YtdboloabpjmgaaaW.PrintWords

namespace Go.RegionInvYtdboloabpjmgaaa
open Go.RowKit

section
variable {P:Program} {ops:Array Oper} {Q:Exit→Act→World→Prop} {B:Nat} {C:Nat→List Nat} {F:Nat→Value→World→(Nat→Prop)→Prop} {a0:Act} {w0:World}

def initialB (ops:Array Oper) (j t:Nat):Bool:=
 (List.range ops.size).all fun i=>i == j || (match ops[i]? with | some o=>o.dst != some t || o.after.toList.any (fun e=>e.on == j && Region.binds .any e) | none=>true)

def nwB (ops:Array Oper) (t:Nat):Bool:=ops.toList.all fun o=>o.dst != some t
theorem initialB_of_nw {ops:Array Oper} {t j:Nat} (h:nwB ops t=true):initialB ops j t=true:=by
 unfold initialB nwB at *
 rw [List.all_eq_true]
 intro i hi
 have hlt:=List.mem_range.1 hi
 rw [Array.getElem?_eq_getElem hlt]
 have:=List.all_eq_true.1 h _ (Array.mem_toList_iff.2 (Array.getElem_mem hlt))
 simp only [this,Bool.true_or,Bool.or_true]

def predB (o:Oper) (i:Nat):Bool:=o.after.toList.any fun e=>e.on == i && Region.binds .any e

structure Chg (S:Nat→Prop) (w w':World):Prop where
 os:w'.os=w.os
 tape:w'.tape=w.tape
 output:w'.output=w.output
 size:w.heap.size≤w'.heap.size
 block:∀ k,k<w.heap.size→¬ S k→w'.heap[k]?=w.heap[k]?
theorem Chg.refl (S:Nat→Prop) (w:World):Chg S w w:=⟨rfl,rfl,rfl,Nat.le_refl _,fun _ _ _=>rfl⟩
theorem Chg.mono {S S':Nat→Prop} {w w':World} (h:Chg S w w') (k:∀ i,S i→S' i):Chg S' w w':=⟨h.os,h.tape,h.output,h.size,fun i hi hs=>h.block i hi fun x=>hs (k i x)⟩
theorem Chg.of_below {S:Nat→Prop} {w w':World} (h:Below w.heap.size w w'):Chg S w w':=⟨h.os,h.tape,h.output,h.size,fun i hi _=>h.block i hi⟩
theorem Chg.below {S:Nat→Prop} {B:Nat} {w w':World} (h:Chg S w w') (hS:∀ k,S k→B≤k) (hB:B≤w.heap.size):Below B w w':=
 ⟨h.os,h.tape,h.output,h.size,fun i hi=>h.block i (by omega) (fun x=>by have:=hS i x;omega)⟩
theorem Chg.trans_below {S:Nat→Prop} {B:Nat} {a w w':World} (h:Below B a w) (k:Chg S w w') (hS:∀ k,S k→B≤k) (hB:B≤w.heap.size):Below B a w':=h.trans (k.below hS hB)

def Grew (v0 v:Value) (w w':World):Prop:=Chg (fun k=>v0.ownBlock=some k) w w'∧∀ k,v.ownBlock=some k→v0.ownBlock=some k∨w.heap.size≤k
theorem Grew.refl (v:Value) (w:World):Grew v v w w:=⟨Chg.refl _ _,fun _ h=>.inl h⟩
theorem Grew.trans {v0 v1 v2:Value} {w w1 w2:World} (h:Grew v0 v1 w w1) (k:Grew v1 v2 w1 w2):Grew v0 v2 w w2:=by
 refine ⟨⟨k.1.os.trans h.1.os,k.1.tape.trans h.1.tape,k.1.output.trans h.1.output,Nat.le_trans h.1.size k.1.size,fun i hi hs=>?_⟩,fun i hi=>?_⟩
 ·rw [k.1.block i (Nat.lt_of_lt_of_le hi h.1.size) (fun e=>?_),h.1.block i hi hs]
  rcases h.2 i e with e | e
  ·exact hs e
  ·omega
 ·rcases k.2 i hi with e | e
  ·exact h.2 i e
  ·exact .inr (Nat.le_trans h.1.size e)
theorem Grew.of_append {v v1:Value} {w w1:World} (hg:w.grownBy w1 v.ownBlock) (hat:v1.ownBlock=v.ownBlock∨∃ b,v1.ownBlock=some b∧w.heap.size≤b):Grew v v1 w w1:=by
 refine ⟨⟨hg.os,hg.tape,hg.output,hg.size,fun k hk hs=>hg.block k hk (fun e=>hs e.symm)⟩,fun k hk=>?_⟩
 rcases hat with e | ⟨b,e,hb⟩
 ·exact .inl (e ▸ hk)
 ·rw [e] at hk;obtain rfl:=Option.some.inj hk;exact .inr hb
theorem Grew.below {v0 v:Value} {w w':World} {B:Nat} (h:Grew v0 v w w') (hB:∀ k,v0.ownBlock=some k→B≤k) (hz:B≤w.heap.size):Below B w w':=h.1.below hB hz

def Stable (B:Nat) (G:Value→World→(Nat→Prop)→Prop):Prop:=
 ∀ v w w' O,G v w O→w.heap.size≤w'.heap.size→(∀ k,k<w.heap.size→(k<B∨O k)→w'.heap[k]?=w.heap[k]?)→G v w' O

def freeB (C:Nat→List Nat) (n i j:Nat):Bool:=(List.range n).all fun k=>k == j || !(C k).contains i

structure Known (ops:Array Oper) (B:Nat) (C:Nat→List Nat) (F:Nat→Value→World→(Nat→Prop)→Prop) (a0:Act) (w0:World) (j:Nat) (o:Oper) (a:Act) (w:World) (O:Nat→Nat→Prop):Prop where
 fact:∀ i oi d,ops[i]?=some oi→oi.dst=some d→predB o i=true→freeB C ops.size i j=true→F i (a.tmps.getD d undef) w (O i)
 owns:∀ i,predB o i=true→freeB C ops.size i j=true→∀ k,O i k→B≤k∧k<w.heap.size
 init:∀ t,initialB ops j t=true→a.tmps.getD t undef=a0.tmps.getD t undef
 size:a.tmps.size=a0.tmps.size
 world:Below B w0 w
 base:B≤w.heap.size

def Owes (P:Program) (ops:Array Oper) (Q:Exit→Act→World→Prop) (Cj:List Nat) (O:Nat→Nat→Prop) (G:Value→World→(Nat→Prop)→Prop) (o:Oper) (a:Act) (w:World):Prop:=
 if Region.wanted o (yielded ops a.tmps) then o.wp P a w (fun a' w'=>∃ v O',a'=a.put o.dst v∧G v w' O'∧Chg (fun k=>∃ i∈Cj,O i k) w w' ∧
  (∀ k,O' k→(∃ i∈Cj,O i k)∨(w.heap.size≤k∧k<w'.heap.size))) Q
 else G undef w (fun _=>False)

def Obs (P:Program) (ops:Array Oper) (Q:Exit→Act→World→Prop) (B:Nat) (C:Nat→List Nat) (F:Nat→Value→World→(Nat→Prop)→Prop) (a0:Act) (w0:World):List Oper→Nat→Prop
 | [],_=>True
 | o :: r,j=>(Stable B (F j)∧∀ a w O,Known ops B C F a0 w0 j o a w O→Owes P ops Q (C j) O (F j) o a w)∧Obs P ops Q B C F a0 w0 r (j+1)

theorem Obs.at_:∀ (l:List Oper) (k:Nat),Obs P ops Q B C F a0 w0 l k→∀ j o,l[j]?=some o→Stable B (F (k+j))∧∀ a w O,Known ops B C F a0 w0 (k+j) o a w O→Owes P ops Q (C (k+j)) O (F (k+j)) o a w:=by
 intro l
 induction l with
 | nil=>intro k _ j o h;simp at h
 | cons x r ih =>
  intro k h j o hj
  cases j with
  | zero =>
   obtain rfl:x=o:=by simpa using hj
   exact h.1
  | succ j =>
   have:=ih (k+1) h.2 j o (by simpa using hj)
   rwa [show k+1+j=k+(j+1) by omega] at this

def okB (ops:Array Oper) (n:Nat):Bool:=
 ((List.range ops.size).all fun i=>match ops[i]? with
  | some o=>(o.after.toList.all fun e=>!Region.binds .any e || decide (e.on<i)) &&
   (match o.dst with | some d=>decide (d<n) && ((List.range i).all fun k=>match ops[k]? with | some o'=>o'.dst != some d | none=>true) | none=>true)
  | none=>true)

theorem okB.edges {n:Nat} (h:okB ops n=true) {i:Nat} {o:Oper} (hi:ops[i]?=some o):∀ e∈o.after,Region.binds .any e=true→e.on<i:=by
 unfold okB at h
 have hlt:=(Array.getElem?_eq_some_iff.1 hi).1
 have:=List.all_eq_true.1 h i (List.mem_range.2 hlt)
 simp only [hi,Bool.and_eq_true] at this
 intro e he hb
 have h2:=List.all_eq_true.1 this.1 e (Array.mem_toList_iff.2 he)
 simpa [hb] using h2
theorem okB.size {n:Nat} (h:okB ops n=true) {i d:Nat} {o:Oper} (hi:ops[i]?=some o) (hd:o.dst=some d):d<n:=by
 unfold okB at h
 have hlt:=(Array.getElem?_eq_some_iff.1 hi).1
 have:=List.all_eq_true.1 h i (List.mem_range.2 hlt)
 simp only [hi,hd,Bool.and_eq_true] at this
 simpa using this.2.1
theorem okB.once {n:Nat} (h:okB ops n=true) {i k d:Nat} {o o':Oper} (hi:ops[i]?=some o) (hd:o.dst=some d) (hk:ops[k]?=some o') (hd':o'.dst=some d):i=k:=by
 have key:∀ {i k:Nat} {o o':Oper},ops[i]?=some o→o.dst=some d→ops[k]?=some o'→o'.dst=some d→¬ k<i:=by
  intro i k o o' hi hd hk hd' hlt
  unfold okB at h
  have hl:=(Array.getElem?_eq_some_iff.1 hi).1
  have:=List.all_eq_true.1 h i (List.mem_range.2 hl)
  simp only [hi,hd,Bool.and_eq_true] at this
  have h2:=List.all_eq_true.1 this.2.2 k (List.mem_range.2 hlt)
  simp [hk,hd'] at h2
 have h1:=key hi hd hk hd'
 have h2:=key hk hd' hi hd
 omega

def consB (ops:Array Oper) (C:Nat→List Nat):Bool:=
 (List.range ops.size).all fun j=>(C j).all fun i=>freeB C ops.size i j && (match ops[j]? with | some o=>predB o i | none=>false)

theorem freeB.spec {n i j k:Nat} (h:freeB C n i j=true) (hk:k<n) (hne:k≠j):i∉C k:=by
 unfold freeB at h
 have:=List.all_eq_true.1 h k (List.mem_range.2 hk)
 simp only [Bool.or_eq_true,beq_iff_eq,Bool.not_eq_true'] at this
 rcases this with e | e
 ·exact absurd e hne
 ·intro hm;rw [List.contains_iff_mem.2 hm] at e;cases e
theorem consB.spec (h:consB ops C=true) {j i:Nat} {o:Oper} (hj:ops[j]?=some o) (hi:i∈C j):freeB C ops.size i j=true∧predB o i=true:=by
 unfold consB at h
 have h1:=List.all_eq_true.1 h j (List.mem_range.2 (Array.getElem?_eq_some_iff.1 hj).1)
 have h2:=List.all_eq_true.1 h1 i hi
 rw [hj] at h2
 simpa using h2

def live (ops:Array Oper) (C:Nat→List Nat) (L:Array Bool) (i:Nat):Prop:=L.getD i false=true∧∀ k,k<ops.size→L.getD k false=true→i∉C k

structure Inv (ops:Array Oper) (B:Nat) (C:Nat→List Nat) (F:Nat→Value→World→(Nat→Prop)→Prop) (a0:Act) (w0:World) (L:Array Bool) (O:Nat→Nat→Prop) (a:Act) (w:World):Prop where
 defers:a.defers=a0.defers
 size:a.tmps.size=a0.tmps.size
 fact:∀ i o d,ops[i]?=some o→o.dst=some d→live ops C L i→F i (a.tmps.getD d undef) w (O i)
 owns:∀ i,live ops C L i→∀ k,O i k→B≤k∧k<w.heap.size
 apart:∀ i j,live ops C L i→live ops C L j→i≠j→∀ k,O i k→¬ O j k
 same:∀ t,(∀ i o,ops[i]?=some o→L.getD i false=true→o.dst≠some t)→a.tmps.getD t undef=a0.tmps.getD t undef
 closed:∀ i o,ops[i]?=some o→L.getD i false=true→∀ e∈o.after,Region.binds .any e=true→L.getD e.on false=true
 world:Below B w0 w
 base:B≤w.heap.size
 len:L.size=ops.size

theorem getD_put_same {a:Act} {d:Nat} {v:Value} (h:d<a.tmps.size):(a.put (some d) v).tmps.getD d undef=v:=by
 simp [Act.put,Array.getD,h]
theorem getD_put_ne {a:Act} {dst:Option Tmp} {v:Value} {t:Nat} (h:dst≠some t):(a.put dst v).tmps.getD t undef=a.tmps.getD t undef:=by
 cases dst with
 | none=>rfl
 | some d =>
  have hne:d≠t:=fun e=>h (by rw [e])
  simp only [Act.put,Array.getD_eq_getD_getElem?,Array.getElem?_setIfInBounds_ne hne]
theorem size_put (a:Act) (dst:Option Tmp) (v:Value):(a.put dst v).tmps.size=a.tmps.size:=by
 cases dst <;> simp [Act.put]
theorem defers_put (a:Act) (dst:Option Tmp) (v:Value):(a.put dst v).defers=a.defers:=by
 cases dst <;> simp [Act.put]

theorem nwB.spec {ops:Array Oper} {t:Nat} (h:nwB ops t=true):∀ (i:Nat) (o:Oper),ops[i]?=some o→o.dst≠some t:=by
 intro i o hi hd
 have:=List.all_eq_true.1 h o (Array.mem_toList_iff.2 (Array.mem_of_getElem? hi))
 simp [hd] at this
theorem lit (t:Array Value) (n:Nat) (h:t.size=n):t=((List.range n).map fun i=>t.getD i undef).toArray:=by
 apply Array.ext
 ·simp [h]
 ·intro i h1 h2
  simp [Array.getD,h1]
end
end Go.RegionInvYtdboloabpjmgaaa

namespace Go.Proofs.Ytdboloabpjmgaaa
open Go.RowKit Go.Proofs.YtdboloabpjmgaaaW.PrintWords Go.RegionInvYtdboloabpjmgaaa

inductive Lv where
 | mk (kind n:Int) (kids:List Lv)
namespace Lv
def kind:Lv→Int | mk k _ _=>k
def num:Lv→Int | mk _ n _=>n
def kids:Lv→List Lv | mk _ _ ks=>ks
end Lv
def CellsAt (w:World) (S:Nat→Prop) (A:Option Addr) (i:Nat) (a b:Int) (A':Option Addr) (n' c':Nat):Prop:=
 ∃ ad,A=some ad∧S ad.block∧ad.spot=none∧w.cell? (ad.add (i * 3))=some (.int .i64 a)∧w.cell? (ad.add (i * 3+1))=some (.int .i64 b)∧w.cell? (ad.add (i * 3+2))=some (.slice A' n' c')

inductive LvS (w:World) (S:Nat→Prop):Option Addr→Nat→Lv→Prop
 | mk {A:Option Addr} {c:Nat} {k n:Int} {kids:List Lv} (fA:Nat→Option Addr) (fc:Nat→Nat) (hc:kids.length≤c) (hm:c≤9223372036854775807)
   (hcell:∀ (i:Nat) (x:Lv),kids[i]?=some x→CellsAt w S A i x.kind x.num (fA i) x.kids.length (fc i)) (hk:∀ (i:Nat) (x:Lv),kids[i]?=some x→LvS w S (fA i) (fc i) x):LvS w S A c (.mk k n kids)
abbrev LvIn (w:World) (B:Nat):Option Addr→Nat→Lv→Prop:=LvS w fun k=>k<B

def lvV (A:Option Addr) (c:Nat) (l:Lv):Value:=.agg #[.int .i64 l.kind,.int .i64 l.num,.slice A l.kids.length c]

theorem cell_same {w w':World} {p:Addr} (h:w'.heap[p.block]?=w.heap[p.block]?):w'.cell? p=w.cell? p:=by simp [World.cell?,h]
theorem CellsAt.same {w w':World} {S:Nat→Prop} {A:Option Addr} {i:Nat} {a b:Int} {A':Option Addr} {n' c':Nat} (h:CellsAt w S A i a b A' n' c') (hs:∀ k,S k→k<w.heap.size→w'.heap[k]?=w.heap[k]?):CellsAt w' S A i a b A' n' c':=by
 obtain ⟨ad,e,hlt,hsp,h1,h2,h3⟩:=h
 have hb:∀ j,(ad.add j).block=ad.block:=fun j=>by unfold Addr.add;split <;> rfl
 have hz:ad.block<w.heap.size:=by have:=World.block_lt_of_cell? w _ h1;rwa [hb] at this
 have key:∀ j,w'.cell? (ad.add j)=w.cell? (ad.add j):=fun j=>cell_same (by rw [hb];exact hs _ hlt hz)
 exact ⟨ad,e,hlt,hsp,(key _).trans h1,(key _).trans h2,(key _).trans h3⟩
theorem LvS.same {w w':World} {S:Nat→Prop} {A:Option Addr} {c:Nat} {l:Lv} (h:LvS w S A c l) (hs:∀ k,S k→k<w.heap.size→w'.heap[k]?=w.heap[k]?):LvS w' S A c l:=by
 induction h with
 | mk fA fc hc hm hcell _ ih=>exact .mk fA fc hc hm (fun i x hx=>(hcell i x hx).same hs) ih
theorem LvS.mono {w:World} {S S':Nat→Prop} {A:Option Addr} {c:Nat} {l:Lv} (h:LvS w S A c l) (hS:∀ k,S k→k<w.heap.size→S' k):LvS w S' A c l:=by
 induction h with
 | mk fA fc hc hm hcell _ ih =>
  refine .mk fA fc hc hm (fun i x hx=>?_) ih
  obtain ⟨ad,e,hlt,hsp,h1,r⟩:=hcell i x hx
  have hb:(ad.add (i * 3)).block=ad.block:=by unfold Addr.add;split <;> rfl
  exact ⟨ad,e,hS _ hlt (by have:=World.block_lt_of_cell? w _ h1;rwa [hb] at this),hsp,h1,r⟩
theorem LvIn.stay {w w':World} {B:Nat} {A:Option Addr} {c:Nat} {l:Lv} (h:LvIn w B A c l) (hb:Below B w w'):LvIn w' B A c l:=LvS.same h fun k hk _=>hb.block k hk
theorem LvS.later {w w':World} {S:Nat→Prop} {A:Option Addr} {c:Nat} {l:Lv} (h:LvS w S A c l) (hb:Below w.heap.size w w'):LvS w' S A c l:=h.same fun k _ hk=>hb.block k hk
theorem LvS.all {w:World} {S:Nat→Prop} {A:Option Addr} {c:Nat} {l:Lv} (h:LvS w S A c l):LvIn w w.heap.size A c l:=h.mono fun _ _ hk=>hk
theorem LvS.len {w:World} {S:Nat→Prop} {A:Option Addr} {c:Nat} {l:Lv} (h:LvS w S A c l):l.kids.length≤c∧c≤9223372036854775807:=by
 cases h with
 | mk fA fc hc hm _ _=>exact ⟨hc,hm⟩
theorem LvS.kid {w:World} {S:Nat→Prop} {A:Option Addr} {c:Nat} {l:Lv} (h:LvS w S A c l) (i:Nat) (x:Lv) (hx:l.kids[i]?=some x):∃ A' c',CellsAt w S A i x.kind x.num A' x.kids.length c'∧LvS w S A' c' x:=by
 cases h with
 | mk fA fc hc hm hcell hk=>exact ⟨fA i,fc i,hcell i x hx,hk i x hx⟩
theorem LvIn.mono {w:World} {B B':Nat} {A:Option Addr} {c:Nat} {l:Lv} (h:LvIn w B A c l) (hB:B≤B'):LvIn w B' A c l:=LvS.mono h fun _ hk _=>Nat.lt_of_lt_of_le hk hB

mutual
def walkP (f:Lv→Int→Int→Int × Int):Lv→Int→Int→Int × Int
 | .mk k n kids,d,s=>if (f (.mk k n kids) d s).1≠0 then f (.mk k n kids) d s else walkKs f kids (d+1) (f (.mk k n kids) d s).2
def walkKs (f:Lv→Int→Int→Int × Int):List Lv→Int→Int→Int × Int
 | [],_,s=>(0,s)
 | x :: r,d,s=>if (walkP f x d s).1≠0 then walkP f x d s else walkKs f r d (walkP f x d s).2
end
theorem walkP_stop {f:Lv→Int→Int→Int × Int} {l:Lv} {d s:Int} (h:(f l d s).1≠0):walkP f l d s=f l d s:=by
 cases l;rw [walkP,if_pos h]
theorem walkP_go {f:Lv→Int→Int→Int × Int} {l:Lv} {d s:Int} (h:(f l d s).1=0):walkP f l d s=walkKs f l.kids (d+1) (f l d s).2:=by
 cases l;rw [walkP,if_neg (by simpa using h)];rfl
theorem walkKs_stop {f:Lv→Int→Int→Int × Int} {x:Lv} {r:List Lv} {d s:Int} (h:(walkP f x d s).1≠0):walkKs f (x :: r) d s=walkP f x d s:=by
 rw [walkKs,if_pos h]
theorem walkKs_go {f:Lv→Int→Int→Int × Int} {x:Lv} {r:List Lv} {d s:Int} (h:(walkP f x d s).1=0):walkKs f (x :: r) d s=walkKs f r d (walkP f x d s).2:=by
 rw [walkKs,if_neg (by simpa using h)]
end Go.Proofs.Ytdboloabpjmgaaa

namespace Go.Proofs.YtdboloabpjmgaaaW.PrintLast

section
variable {P:Program} {ops:Array Oper} {Q:Exit→Act→World→Prop} {md:Region.Mode} {S:World→Prop} {ds:List Nat}

end

section
variable {P:Program} {ops:Array Oper} {Q:Exit→Act→World→Prop} {md:Region.Mode} {S:World→Prop} {ds:List Nat}

theorem enters_ {f:FuncId} {fn:Func} (hf:P.funcs[f]?=some fn) (hname:(fn.name == "runtime.NumGoroutine")=false) (hb:fn.body.isSome=true) (args:Array Value) (w:World):(callFunc f args).run P w=.ok (.enter f args) w:=by
 have h1:fn.name ≠ "runtime.NumGoroutine":=by simpa using hname
 obtain ⟨c,hc⟩:=Option.isSome_iff_exists.1 hb
 simp [callFunc,hf,h1,hc]
end
end Go.Proofs.YtdboloabpjmgaaaW.PrintLast

namespace Go.RegionInvYtdboloabpjmgaaa
open Go.RowKit Go.Proofs.YtdboloabpjmgaaaW.PrintWords

section
variable {P:Program} {ops:Array Oper} {Q:Exit→Act→World→Prop} {B:Nat} {Cj:List Nat} {O:Nat→Nat→Prop} {G:Value→World→(Nat→Prop)→Prop} {a:Act} {w:World} {o:Oper}

theorem wanted_none {y:Nat→Option Bool} (h:o.guard=none):Region.wanted o y=true:=by unfold Region.wanted;rw [h]
theorem yielded_of {j d:Nat} {oj:Oper} {c:Bool} (hj:ops[j]?=some oj) (hd:oj.dst=some d) (hv:a.tmps.getD d undef=.bool c):yielded ops a.tmps j=some c:=by
 unfold yielded
 rw [hj,Option.bind_some,hd,Option.bind_some]
 have hlt:d<a.tmps.size:=by
  rcases Nat.lt_or_ge d a.tmps.size with h | h
  ·exact h
  ·simp [Array.getD,Nat.not_lt.2 h,undef] at hv
 rw [Array.getElem?_eq_getElem hlt]
 have:a.tmps[d]=.bool c:=by simpa [Array.getD,hlt] using hv
 rw [this]
theorem wanted_of {j d:Nat} {oj:Oper} {b:Bool} (hg:o.guard=some (j,b)) (hj:ops[j]?=some oj) (hd:oj.dst=some d) (hv:a.tmps.getD d undef=.bool b):Region.wanted o (yielded ops a.tmps)=true:=by
 unfold Region.wanted;rw [hg];simp only [];rw [yielded_of hj hd hv];simp
theorem unwanted_of {j d:Nat} {oj:Oper} {b c:Bool} (hg:o.guard=some (j,b)) (hj:ops[j]?=some oj) (hd:oj.dst=some d) (hv:a.tmps.getD d undef=.bool c) (hne:c≠b):Region.wanted o (yielded ops a.tmps)=false:=by
 unfold Region.wanted;rw [hg];simp only [];rw [yielded_of hj hd hv];simp [hne]
theorem ob_skip (hw:Region.wanted o (yielded ops a.tmps)=false) (hG:G undef w fun _=>False):Owes P ops Q Cj O G o a w:=by
 unfold Owes;rw [hw];exact hG
theorem ob_run {v:Value} (hw:Region.wanted o (yielded ops a.tmps)=true) (hr:(execOp a.eval o).run P w=.ok (.value v) w) (hG:G v w fun _=>False):Owes P ops Q Cj O G o a w:=by
 unfold Owes;rw [if_pos hw];unfold Oper.wp;rw [hr]
 exact ⟨v,_,rfl,hG,Chg.refl _ _,fun _ h=>h.elim⟩
theorem ob_move {x:Operand} {v:Value} (ho:o.op=.move x) (hx:a.eval x=v) (hw:Region.wanted o (yielded ops a.tmps)=true) (hG:G v w fun _=>False):Owes P ops Q Cj O G o a w:=
 ob_run hw (by unfold execOp;rw [ho];simp only [];rw [hx];rfl) hG
theorem ob_assign {x:Operand} {v:Value} (ho:o.op=.assign x) (hx:a.eval x=v) (hw:Region.wanted o (yielded ops a.tmps)=true) (hG:G v w fun _=>False):Owes P ops Q Cj O G o a w:=
 ob_run hw (by unfold execOp;rw [ho];simp only [];rw [hx];rfl) hG
theorem ob_pick {c x y:Operand} {b:Bool} {v:Value} (ho:o.op=.pick c x y) (hc:a.eval c=.bool b) (hx:a.eval (if b then x else y)=v) (hw:Region.wanted o (yielded ops a.tmps)=true) (hG:G v w fun _=>False):Owes P ops Q Cj O G o a w:=
 ob_run hw (by
  unfold execOp;rw [ho];simp only [];rw [hc]
  cases b <;> simp_all [asBool]) hG
theorem ob_bin {p:BinOp} {t t':TypeId} {x y:Operand} {vx vy v:Value} (ho:o.op=.binOp p t x y t') (hx:a.eval x=vx) (hy:a.eval y=vy) (hr:(binOp p t vx vy).run P w=.ok v w)
  (hp:p≠.shl∧p≠.shr∧p≠.eql∧p≠.neq) (hw:Region.wanted o (yielded ops a.tmps)=true) (hG:G v w fun _=>False):Owes P ops Q Cj O G o a w:=
 ob_run hw (by
  obtain ⟨h1,h2,h3,h4⟩:=hp
  unfold execOp;rw [ho];simp only [];rw [hx,hy]
  cases p <;> simp_all [eqGuard]) hG
theorem run_lssB {t:TypeId} {k:IntKind} (x y:Int) (b:Bool) (h:decide (x<y)=b):(binOp .lss t (.int k x) (.int k y)).run P w=.ok (.bool b) w:=by subst h;simp [go_sem]
theorem ob_neqInt {t t':TypeId} {k:IntKind} {x y:Operand} {m n:Int} (b:Bool) (ho:o.op=.binOp .neq t x y t') (hx:a.eval x=.int k m) (hy:a.eval y=.int k n) (hb:(m != n)=b)
  (hw:Region.wanted o (yielded ops a.tmps)=true) (hG:G (.bool b) w fun _=>False):Owes P ops Q Cj O G o a w:=
 ob_run hw (by unfold execOp;rw [ho];simp only [];rw [hx,hy];subst hb;simp [go_sem]) hG
theorem ob_eqlBool {t t':TypeId} {x y:Operand} {m n:Bool} (b:Bool) (ho:o.op=.binOp .eql t x y t') (hx:a.eval x=.bool m) (hy:a.eval y=.bool n) (hu:P.underlying t=some .bool) (hb:(m == n)=b)
  (hw:Region.wanted o (yielded ops a.tmps)=true) (hG:G (.bool b) w fun _=>False):Owes P ops Q Cj O G o a w:=
 ob_run hw (by unfold execOp;rw [ho];simp only [];rw [hx,hy];subst hb;simp [go_sem,run_eql_bool w t m n hu]) hG
theorem ob_len {t e:TypeId} {x:Operand} {A:Option Addr} {n c:Nat} (ho:o.op=.call { callee:=.builtin .len,args:=#[x],argTypes:=#[t] }) (hx:a.eval x=.slice A n c) (hu:P.underlying t=some (.slice e))
  (hw:Region.wanted o (yielded ops a.tmps)=true) (hG:G (.int .i64 n) w fun _=>False):Owes P ops Q Cj O G o a w:=
 ob_run hw (by
  unfold execOp;rw [ho]
  simp only [resolve,invoke,builtin,Sem.run_bind,Sem.run_pure,Result.andThen_ok,List.map_toArray,List.map_cons,List.map_nil,hx]
  simp [go_sem,Builtin.len_,run_underlying hu,goInt]) hG
def OwnO (B:Nat) (e:TypeId) (size:Nat) (n:Nat) (xs:List Value) (v:Value) (w:World) (O:Nat→Prop):Prop:=w.ownsRow B e size v n xs∧∀ k,v.ownBlock=some k→O k
theorem ownsRow_same {w w':World} {base:Nat} {e:TypeId} {size n:Nat} {v:Value} {xs:List Value} (h:w.ownsRow base e size v n xs) (hs:∀ k,v.ownBlock=some k→w'.heap[k]?=w.heap[k]?):w'.ownsRow base e size v n xs:=by
 obtain ⟨h1,h2⟩:=h
 refine ⟨h1,?_⟩
 rcases h2 with h2 | ⟨g,cap,cur,hv,hg,hh,r⟩
 ·exact .inl h2
 ·refine .inr ⟨g,cap,cur,hv,hg,?_,r⟩
  rw [hs g (by rw [hv];rfl)]
  exact hh
end
end Go.RegionInvYtdboloabpjmgaaa

namespace Go.Proofs.Ytdboloabpjmgaaa
open Go.RowKit Go.Proofs.YtdboloabpjmgaaaW.PrintWords Go.RegionInvYtdboloabpjmgaaa

def arityP (k:Int):Int:=if k=1∨k=2 then 0 else if k=3 then 1 else if k=4 then 2 else -1
theorem arity_12 {k:Int} (h:k=1∨k=2):arityP k=0:=by unfold arityP;rw [if_pos h]
theorem arity_no {k:Int} (h1:k≠1) (h2:k≠2) (h3:k≠3) (h4:k≠4):arityP k = -1:=by unfold arityP;rw [if_neg (by omega),if_neg h3,if_neg h4]

set_option maxHeartbeats 2000000 in
theorem kids_calls (k:Int) (w:World):Calls Try.prog 131 #[.int .i64 k] w fun e w'=>e=.returned (.int .i64 (arityP k))∧w'=w:=by
 go_enter Try.func131,Try.ntmps131
 by_cases h1:k=1
 ·have H:=Ak (arity_12 (.inl h1))
  have e1:(k == 1)=true:=by simp [h1]
  clear h1
  go_wp2
  go_ret
  exact ⟨by rw [H.out];rfl,rfl⟩
 ·have e1:(k == 1)=false:=by simp [h1]
  by_cases h2:k=2
  ·have H:=Ak (arity_12 (.inr h2))
   have e2:(k == 2)=true:=by simp [h2]
   clear h1 h2
   go_wp2
   go_ret
   exact ⟨by rw [H.out];rfl,rfl⟩
  ·have e2:(k == 2)=false:=by simp [h2]
   by_cases h3:k=3
   ·have H:=Ak (show arityP k=1 by rw [h3];decide)
    have e3:(k == 3)=true:=by simp [h3]
    clear h1 h2 h3
    go_wp2
    go_ret
    exact ⟨by rw [H.out];rfl,rfl⟩
   ·have e3:(k == 3)=false:=by simp [h3]
    by_cases h4:k=4
    ·have H:=Ak (show arityP k=2 by rw [h4];decide)
     have e4:(k == 4)=true:=by simp [h4]
     clear h1 h2 h3 h4
     go_wp2
     go_ret
     exact ⟨by rw [H.out];rfl,rfl⟩
    ·have H:=Ak (arity_no h1 h2 h3 h4)
     have e4:(k == 4)=false:=by simp [h4]
     clear h1 h2 h3 h4
     go_wp2
     go_ret
     exact ⟨by rw [H.out];rfl,rfl⟩

def rightP (l:Lv) (most mostV:Int):Bool:=
 if (l.kids.length:Int)≠arityP l.kind then false else
 if l.kind=1 then decide (0≤l.num∧l.num≤most) else if l.kind=3 then decide (1≤l.num∧l.num≤most) else if l.kind=2 then decide (0≤l.num∧l.num≤mostV) else true

theorem right_bad {k n:Int} {ks:List Lv} {most mostV:Int} (h:(ks.length:Int)≠arityP k):rightP (.mk k n ks) most mostV=false:=by unfold rightP;exact if_pos h
theorem right_num {n:Int} {ks:List Lv} {most mostV:Int} (h:(ks.length:Int)=arityP 1):rightP (.mk 1 n ks) most mostV=decide (0≤n∧n≤most):=by
 show (if (ks.length:Int)≠arityP 1 then false else decide (0≤n∧n≤most))=_
 exact if_neg (fun x=>x h)
theorem right_succ {n:Int} {ks:List Lv} {most mostV:Int} (h:(ks.length:Int)=arityP 3):rightP (.mk 3 n ks) most mostV=decide (1≤n∧n≤most):=by
 show (if (ks.length:Int)≠arityP 3 then false else decide (1≤n∧n≤most))=_
 exact if_neg (fun x=>x h)
theorem right_var {n:Int} {ks:List Lv} {most mostV:Int} (h:(ks.length:Int)=arityP 2):rightP (.mk 2 n ks) most mostV=decide (0≤n∧n≤mostV):=by
 show (if (ks.length:Int)≠arityP 2 then false else decide (0≤n∧n≤mostV))=_
 exact if_neg (fun x=>x h)
theorem right_else {k n:Int} {ks:List Lv} {most mostV:Int} (h:(ks.length:Int)=arityP k) (h1:k≠1) (h2:k≠2) (h3:k≠3):rightP (.mk k n ks) most mostV=true:=by
 unfold rightP
 exact (if_neg (fun x=>x h)).trans ((if_neg h1).trans ((if_neg h3).trans (if_neg h2)))

set_option maxHeartbeats 2000000 in
theorem right_calls (A:Option Addr) (c:Nat) (l:Lv) (most mostV:Int) (w:World) (hc:l.kids.length≤9223372036854775807) :
  Calls Try.prog 120 #[lvV A c l,.int .i64 most,.int .i64 mostV] w fun e w'=>e=.returned (.bool (rightP l most mostV))∧Below w.heap.size w w':=by
 obtain ⟨k,n,ks⟩:=l
 unfold lvV
 simp only [Lv.kind,Lv.num,Lv.kids] at hc ⊢
 obtain ⟨m,hm⟩:∃ m,m=ks.length:=⟨_,rfl⟩
 rw [← hm] at hc ⊢
 go_enter Try.func120,Try.ntmps120
 by_cases h0:(m:Int)=arityP k
 ·have e0:((m:Int) != arityP k)=false:=by simp [h0]
  by_cases h1:k=1
  ·have e1:(k == 1)=true:=by simp [h1]
   have H:=Ak (show rightP (.mk k n ks) most mostV=decide (0≤n∧n≤most) by rw [h1];exact right_num (by rw [← hm,h0,h1]))
   clear h0 h1 hm
   by_cases q1:0≤n
   ·by_cases q2:n≤most
    ·go_wp2
     go_quiet ((go_at_call 131;exact Calls.quiet_of_same (kids_calls _ _)))
     go_wp2
     go_ret
     exact ⟨congrArg (fun b=>Ending.returned (.bool b)) (H.out ▸ by first | exact (decide_eq_false (by omega)).symm | exact (decide_eq_true (by omega)).symm | exact decide_eq_decide.2 (by omega)),pw_below_drewN (below_alloc (Below.refl _ _) _) _⟩
    ·go_wp2
     go_quiet ((go_at_call 131;exact Calls.quiet_of_same (kids_calls _ _)))
     go_wp2
     go_ret
     exact ⟨congrArg (fun b=>Ending.returned (.bool b)) (H.out ▸ by first | exact (decide_eq_false (by omega)).symm | exact (decide_eq_true (by omega)).symm | exact decide_eq_decide.2 (by omega)),pw_below_drewN (below_alloc (Below.refl _ _) _) _⟩
   ·go_wp2
    go_quiet ((go_at_call 131;exact Calls.quiet_of_same (kids_calls _ _)))
    go_wp2
    go_ret
    exact ⟨congrArg (fun b=>Ending.returned (.bool b)) (H.out ▸ by first | exact (decide_eq_false (by omega)).symm | exact (decide_eq_true (by omega)).symm | exact decide_eq_decide.2 (by omega)),pw_below_drewN (below_alloc (Below.refl _ _) _) _⟩
  ·have e1:(k == 1)=false:=by simp [h1]
   by_cases h3:k=3
   ·have e3:(k == 3)=true:=by simp [h3]
    have H:=Ak (show rightP (.mk k n ks) most mostV=decide (1≤n∧n≤most) by rw [h3];exact right_succ (by rw [← hm,h0,h3]))
    clear h0 h1 h3 hm
    by_cases q1:1≤n
    ·by_cases q2:n≤most
     ·go_wp2
      go_quiet ((go_at_call 131;exact Calls.quiet_of_same (kids_calls _ _)))
      go_wp2
      go_ret
      exact ⟨congrArg (fun b=>Ending.returned (.bool b)) (H.out ▸ by first | exact (decide_eq_false (by omega)).symm | exact (decide_eq_true (by omega)).symm | exact decide_eq_decide.2 (by omega)),pw_below_drewN (below_alloc (Below.refl _ _) _) _⟩
     ·go_wp2
      go_quiet ((go_at_call 131;exact Calls.quiet_of_same (kids_calls _ _)))
      go_wp2
      go_ret
      exact ⟨congrArg (fun b=>Ending.returned (.bool b)) (H.out ▸ by first | exact (decide_eq_false (by omega)).symm | exact (decide_eq_true (by omega)).symm | exact decide_eq_decide.2 (by omega)),pw_below_drewN (below_alloc (Below.refl _ _) _) _⟩
    ·go_wp2
     go_quiet ((go_at_call 131;exact Calls.quiet_of_same (kids_calls _ _)))
     go_wp2
     go_ret
     exact ⟨congrArg (fun b=>Ending.returned (.bool b)) (H.out ▸ by first | exact (decide_eq_false (by omega)).symm | exact (decide_eq_true (by omega)).symm | exact decide_eq_decide.2 (by omega)),pw_below_drewN (below_alloc (Below.refl _ _) _) _⟩
   ·have e3:(k == 3)=false:=by simp [h3]
    by_cases h2:k=2
    ·have e2:(k == 2)=true:=by simp [h2]
     have H:=Ak (show rightP (.mk k n ks) most mostV=decide (0≤n∧n≤mostV) by rw [h2];exact right_var (by rw [← hm,h0,h2]))
     clear h0 h1 h3 h2 hm
     by_cases q1:0≤n
     ·by_cases q2:n≤mostV
      ·go_wp2
       go_quiet ((go_at_call 131;exact Calls.quiet_of_same (kids_calls _ _)))
       go_wp2
       go_ret
       exact ⟨congrArg (fun b=>Ending.returned (.bool b)) (H.out ▸ by first | exact (decide_eq_false (by omega)).symm | exact (decide_eq_true (by omega)).symm | exact decide_eq_decide.2 (by omega)),pw_below_drewN (below_alloc (Below.refl _ _) _) _⟩
      ·go_wp2
       go_quiet ((go_at_call 131;exact Calls.quiet_of_same (kids_calls _ _)))
       go_wp2
       go_ret
       exact ⟨congrArg (fun b=>Ending.returned (.bool b)) (H.out ▸ by first | exact (decide_eq_false (by omega)).symm | exact (decide_eq_true (by omega)).symm | exact decide_eq_decide.2 (by omega)),pw_below_drewN (below_alloc (Below.refl _ _) _) _⟩
     ·go_wp2
      go_quiet ((go_at_call 131;exact Calls.quiet_of_same (kids_calls _ _)))
      go_wp2
      go_ret
      exact ⟨congrArg (fun b=>Ending.returned (.bool b)) (H.out ▸ by first | exact (decide_eq_false (by omega)).symm | exact (decide_eq_true (by omega)).symm | exact decide_eq_decide.2 (by omega)),pw_below_drewN (below_alloc (Below.refl _ _) _) _⟩
    ·have e2:(k == 2)=false:=by simp [h2]
     have H:=Ak (right_else (n:=n) (ks:=ks) (most:=most) (mostV:=mostV) (by rw [← hm];exact h0) h1 h2 h3)
     clear h0 h1 h2 h3 hm
     go_wp2
     go_quiet ((go_at_call 131;exact Calls.quiet_of_same (kids_calls _ _)))
     go_wp2
     go_ret
     exact ⟨by rw [H.out];rfl,pw_below_drewN (below_alloc (Below.refl _ _) _) _⟩
 ·have e0:((m:Int) != arityP k)=true:=by simp [h0]
  have H:=Ak (right_bad (n:=n) (ks:=ks) (most:=most) (mostV:=mostV) (by rw [← hm];exact h0))
  clear h0 hm
  go_wp2
  go_quiet ((go_at_call 131;exact Calls.quiet_of_same (kids_calls _ _)))
  go_wp2
  go_ret
  exact ⟨by rw [H.out];rfl,pw_below_drewN (below_alloc (Below.refl _ _) _) _⟩
end Go.Proofs.Ytdboloabpjmgaaa

namespace Go.Proofs.Ytdboloabpjmgaaa
open Go.RowKit Go.Proofs.YtdboloabpjmgaaaW.PrintWords Go.RegionInvYtdboloabpjmgaaa

theorem chg_set (w:World) (g j:Nat) (v:Value):Chg (fun k=>k=g) w (w.setCell ⟨g,j,none⟩ v):=
 ⟨rfl,rfl,rfl,by simp [World.setCell],fun i _ hne=>Below.heap_setCell w ⟨g,j,none⟩ v i hne⟩
theorem chg_trans {S:Nat→Prop} {a w w':World} (h:Chg S a w) (k:Chg S w w'):Chg S a w':=
 ⟨k.os.trans h.os,k.tape.trans h.tape,k.output.trans h.output,Nat.le_trans h.size k.size,fun i hi hs=>(k.block i (Nat.lt_of_lt_of_le hi h.size) hs).trans (h.block i hi hs)⟩
theorem chg_alloc (S:Nat→Prop) (w:World) (o:Obj):Chg S w (w.alloc o):=Chg.of_below ((Below.refl _ _).alloc (Nat.le_refl _) _)
theorem chg_drewN {S:Nat→Prop} {w w':World} (h:Chg S w w') (n:Nat):Chg S w (w'.drewN n):=⟨h.os,h.tape,h.output,h.size,h.block⟩
def NumAt (w:World) (g:Nat) (s:Int):Prop:=w.heap[g]?=some (.cells #[.int .i64 s] 3 (0,0))
theorem NumAt.cell {w:World} {g:Nat} {s:Int} (h:NumAt w g s):w.cell? ⟨g,0,none⟩=some (.int .i64 s):=by
 rw [cell_of_row w g 0 _ 3 (0,0) h];rfl
theorem NumAt.set {w:World} {g:Nat} {s:Int} (h:NumAt w g s) (x:Int):NumAt (w.setCell ⟨g,0,none⟩ (.int .i64 x)) g x:=blk_put h 0 _ rfl
theorem NumAt.below {w w':World} {g:Nat} {s:Int} (h:NumAt w g s) (hb:Below w.heap.size w w'):NumAt w' g s:=blk_below h hb
theorem NumAt.alloc {w:World} {g:Nat} {s:Int} (h:NumAt w g s) (o:Obj):NumAt (w.alloc o) g s:=blk_alloc h o

def sndF (l:Lv) (d s:Int):Int × Int:=if 1000<s+1∨256<d∨rightP l 1099511627776 1000=false then (1,s+1) else (0,s+1)
theorem sndF_bad {l:Lv} {d s:Int} (h:1000<s+1∨256<d∨rightP l 1099511627776 1000=false):sndF l d s=(1,s+1):=if_pos h
theorem sndF_ok {l:Lv} {d s:Int} (h:¬ (1000<s+1∨256<d∨rightP l 1099511627776 1000=false)):sndF l d s=(0,s+1):=if_neg h

def VisitPost (w:World) (g:Nat) (r:Int × Int) (e:Ending) (w':World):Prop:=e=.returned (.int .i64 r.1)∧NumAt w' g r.2∧Chg (fun k=>k=g) w w'

set_option maxHeartbeats 2000000 in
theorem sound1_calls (A:Option Addr) (c:Nat) (l:Lv) (d s:Int) (g:Nat) (w:World) (hc:l.kids.length≤9223372036854775807) (hg:NumAt w g s) (hs0:0≤s) (hs1:s≤1000) (hd0:0≤d) (hd1:d≤257) :
  Calls Try.prog 123 #[lvV A c l,.int .i64 d,.pointer (some ⟨g,0,none⟩)] w (VisitPost w g (sndF l d s)):=by
 have HG:=Ak hg
 have hcell:=hg.cell
 have hfz:=blk_frozen hg 0
 have hc2:=(hg.alloc (.cells #[.int .i64 l.kind,.int .i64 l.num,.slice A l.kids.length c] 25 (0,0))).cell
 have HC:=Ak hc
 have hglt:=blk_lt hg
 have hgne:g≠w.heap.size:=Nat.ne_of_lt hglt
 clear hg hc
 unfold lvV
 go_enter Try.func123,Try.ntmps123
 have hfin:NumAt ((w.setCell ⟨g,0,none⟩ (.int .i64 (s+1))).alloc (.cells #[.int .i64 l.kind,.int .i64 l.num,.slice A l.kids.length c] 25 (0,0))) g (s+1):=(HG.out.set _).alloc _
 have hch:Chg (fun k=>k=g) w ((w.setCell ⟨g,0,none⟩ (.int .i64 (s+1))).alloc (.cells #[.int .i64 l.kind,.int .i64 l.num,.slice A l.kids.length c] 25 (0,0))):=chg_trans (chg_set _ _ _ _) (chg_alloc _ _ _)
 have HF:=Ak (And.intro hfin hch)
 clear hfin hch
 by_cases h1:1000<s+1
 ·have HE:=Ak (sndF_bad (l:=l) (d:=d) (.inl h1))
  go_wp2
  go_ret
  rw [HE.out]
  exact ⟨rfl,HF.out.1,HF.out.2⟩
 ·by_cases h2:256<d
  ·have HE:=Ak (sndF_bad (l:=l) (s:=s) (.inr (.inl h2)))
   go_wp2
   go_ret
   rw [HE.out]
   exact ⟨rfl,HF.out.1,HF.out.2⟩
  ·cases hR:rightP l 1099511627776 1000 with
   | false =>
    have HE:=Ak (sndF_bad (d:=d) (s:=s) (.inr (.inr hR)))
    have HR:=Ak hR
    clear hR
    go_wp2_with (go_at_call 120;go_must (refine (right_calls A c l 1099511627776 1000 _ HC.out).mono ?_;rintro e w1 ⟨rfl,hb⟩;rw [HR.out];have HB:=Ak hb;clear hb))
    go_ret
    rw [HE.out]
    exact ⟨rfl,HF.out.1.below HB.out,chg_trans HF.out.2 (Chg.of_below HB.out)⟩
   | true =>
    have HE:=Ak (sndF_ok (l:=l) (d:=d) (s:=s) (by rw [hR];simp;omega))
    have HR:=Ak hR
    clear hR
    go_wp2_with (go_at_call 120;go_must (refine (right_calls A c l 1099511627776 1000 _ HC.out).mono ?_;rintro e w1 ⟨rfl,hb⟩;rw [HR.out];have HB:=Ak hb;clear hb))
    go_ret
    rw [HE.out]
    exact ⟨rfl,HF.out.1.below HB.out,chg_trans HF.out.2 (Chg.of_below HB.out)⟩

def Small (f:Lv→Int→Int→Int × Int) (m:Int):Prop:=∀ l d s,0≤s→(f l d s).1=0→0≤(f l d s).2∧(f l d s).2≤m
mutual
theorem walkP_small {f:Lv→Int→Int→Int × Int} {m:Int} (hf:Small f m):(l:Lv)→(d s:Int)→0≤s→(walkP f l d s).1=0→0≤(walkP f l d s).2∧(walkP f l d s).2≤m
 | .mk k n ks,d,s,h0,h=>by
  by_cases h1:(f (.mk k n ks) d s).1=0
  ·rw [walkP_go h1] at h ⊢
   have h2:=hf _ _ _ h0 h1
   exact walkKs_small hf ks (d+1) _ h2.1 h2.2 h
  ·rw [walkP_stop h1] at h;exact absurd h h1
theorem walkKs_small {f:Lv→Int→Int→Int × Int} {m:Int} (hf:Small f m):(ks:List Lv)→(d s:Int)→0≤s→s≤m→(walkKs f ks d s).1=0→0≤(walkKs f ks d s).2∧(walkKs f ks d s).2≤m
 | [],d,s,h0,h1,_=>by rw [walkKs];exact ⟨h0,h1⟩
 | x :: r,d,s,h0,h1,h=>by
  by_cases h2:(walkP f x d s).1=0
  ·rw [walkKs_go h2] at h ⊢
   have h3:=walkP_small hf x d s h0 h2
   exact walkKs_small hf r d _ h3.1 h3.2 h
  ·rw [walkKs_stop h2] at h;exact absurd h h2
end
theorem sndF_small' {l:Lv} {d s:Int} (hs:0≤s) (h:(sndF l d s).1=0):s+1≤1000∧d≤256∧rightP l 1099511627776 1000=true∧sndF l d s=(0,s+1):=by
 by_cases h1:1000<s+1∨256<d∨rightP l 1099511627776 1000=false
 ·rw [sndF_bad h1] at h;simp at h
 ·exact ⟨by omega,by omega,by cases hR:rightP l 1099511627776 1000 <;> simp_all,sndF_ok h1⟩
theorem sndF_small:Small sndF 1000:=fun l d s h0 h=>by
 have:=sndF_small' h0 h
 rw [this.2.2.2]
 exact ⟨by show 0≤s+1;omega,this.1⟩
end Go.Proofs.Ytdboloabpjmgaaa

namespace Go.Proofs.Ytdboloabpjmgaaa
open Go.RowKit Go.Proofs.YtdboloabpjmgaaaW.PrintWords Go.RegionInvYtdboloabpjmgaaa

theorem kid_small {k n:Int} {ks:List Lv} {i:Nat} {x:Lv} (h:ks[i]?=some x):SizeOf.sizeOf x<SizeOf.sizeOf (Lv.mk k n ks):=by
 have:=List.sizeOf_lt_of_mem (List.mem_of_getElem? h)
 simp only [Lv.mk.sizeOf_spec]
 omega
theorem drop_kid {ks:List Lv} {i:Nat} {x:Lv} (h:ks[i]?=some x):ks.drop i=x :: ks.drop (i+1):=by
 obtain ⟨hi,e⟩:=List.getElem?_eq_some_iff.1 h
 rw [List.drop_eq_getElem_cons hi,e]
theorem chg_below {w w':World} {g B:Nat} (h:Chg (fun k=>k=g) w w') (hB:B≤g) (hz:B≤w.heap.size):Below B w w':=h.below (fun _ e=>e ▸ hB) hz

theorem chg_cell {w w':World} {g:Nat} (h:Chg (fun k=>k=g) w w') {p:Addr} {v:Value} (hc:w.cell? p=some v) (hne:p.block≠g):w'.cell? p=some v:=by
 have hb:=h.block p.block (World.block_lt_of_cell? w p hc) hne
 simpa [World.cell?,hb] using hc
theorem box_cell (w:World) (cs:Array Value) (t:TypeId) (i:Nat) (v:Value) (h:cs[i]?=some v):(w.alloc (.cells cs t (0,0))).cell? ⟨w.heap.size,i,none⟩=some v:=by
 rw [cell_of_row _ _ _ cs t (0,0) (heap_alloc_new w _)];exact h
theorem add_flat (b o j:Nat):(⟨b,o,none⟩:Addr).add j=⟨b,o+j,none⟩:=by unfold Addr.add;split <;> simp_all
theorem CellsAt.facts {w:World} {S:Nat→Prop} {A:Option Addr} {i:Nat} {a b:Int} {A':Option Addr} {n' c':Nat} (h:CellsAt w S A i a b A' n' c'):∃ ad,A=some ad∧w.cell? (ad.add (i * 3))=some (.int .i64 a) ∧
  w.cell? ⟨(ad.add (i * 3)).block,(ad.add (i * 3)).off+1,none⟩=some (.int .i64 b)∧w.cell? ⟨(ad.add (i * 3)).block,(ad.add (i * 3)).off+2,none⟩=some (.slice A' n' c'):=by
 obtain ⟨ad,e,_,hs,h1,h2,h3⟩:=h
 obtain ⟨b,o,sp⟩:=ad
 obtain rfl:sp=none:=hs
 refine ⟨_,e,h1,?_,?_⟩
 ·rw [← h2,add_flat,add_flat];rfl
 ·rw [← h3,add_flat,add_flat];rfl
abbrev soundF (g:Nat):Value:=.func (.func 123) #[] #[.pointer (some ⟨g,0,none⟩)]

theorem sound1_at (A:Option Addr) (c:Nat) (k n:Int) (ks:List Lv) (m:Nat) (d s:Int) (g:Nat) (w:World) (hm:m=ks.length) (hc:m≤9223372036854775807) (hg:NumAt w g s) (hs0:0≤s) (hs1:s≤1000) (hd0:0≤d) (hd1:d≤257) :
  Calls Try.prog 123 #[.agg #[.int .i64 k,.int .i64 n,.slice A m c],.int .i64 d,.pointer (some ⟨g,0,none⟩)] w (VisitPost w g (sndF (.mk k n ks) d s)):=by
 subst hm
 exact sound1_calls A c (.mk k n ks) d s g w hc hg hs0 hs1 hd0 hd1

set_option maxHeartbeats 4000000 in
theorem walk_sound (N:Nat):∀ (l:Lv),SizeOf.sizeOf l<N→∀ (A:Option Addr) (c:Nat) (d s:Int) (g B:Nat) (w:World),LvIn w B A c l→NumAt w g s→B≤g→0≤s→s≤1000→0≤d→d≤257 →
  Calls Try.prog 110 #[lvV A c l,.int .i64 d,soundF g] w (VisitPost w g (walkP sndF l d s)):=by
 induction N with
 | zero=>intro l h;omega
 | succ N ih =>
  rintro ⟨lk,ln,ks⟩ hN A c d s g B w hin hg hBg hs0 hs1 hd0 hd1
  have IH:=Ak ih
  have HIN:=Ak hin
  have HG:=Ak hg
  have hlen:=hin.len
  simp only [Lv.kids] at hlen
  have hl9:ks.length≤9223372036854775807:=by omega
  have hglt:=blk_lt hg
  clear ih hin hg hlen
  unfold soundF lvV
  simp only [Lv.kind,Lv.num,Lv.kids]
  obtain ⟨m,hm⟩:∃ m,m=ks.length:=⟨_,rfl⟩
  rw [← hm] at hl9 ⊢
  have HM:=Ak hm
  clear hm
  go_enter Try.func110,Try.ntmps110
  by_cases h1:(sndF (.mk lk ln ks) d s).1=0
  ·have HE:=Ak (walkP_go h1)
   have hsm:=sndF_small' hs0 h1
   have HV:=Ak hsm.2.2.2
   rw [HV.out] at HE
   simp only [Lv.kids] at HE
   have hs3:=hsm.1
   have hd3:=hsm.2.1
   clear h1 hsm
   go_wp2_with (go_at_call 123;go_must (refine (sound1_at A c lk ln ks m d s g _ HM.out hl9 (HG.out.alloc _) hs0 hs1 hd0 hd1).mono ?_;rintro e w1 ⟨rfl,hg1,hc1⟩;rw [HV.out] at hg1 ⊢;have HG1:=Ak hg1;have hbox:=chg_cell hc1 (box_cell w #[.int .i64 lk,.int .i64 ln,.slice A m c] 25 2 _ rfl) (Nat.ne_of_gt hglt);have HC1:=Ak (chg_trans (chg_alloc _ _ _) hc1);clear hg1 hc1))
   go_loopw [21] (fun i wr=>∃ (k:Nat) (s':Int),i=.int .i64 k∧k≤m∧0≤s'∧s'≤1000∧Aside0 (walkKs sndF (ks.drop k) (d+1) s'=walkP sndF (.mk lk ln ks) d s)∧Aside0 (NumAt wr g s')∧Aside0 (Chg (fun k=>k=g) w wr)) (fun i _=>m - (intOf i).toNat)
   case atStart=>exact ⟨0,s+1,rfl,Nat.zero_le _,by omega,by omega,⟨HE.out.symm⟩,HG1,HC1⟩
   case round =>
    clear HE HV HG1 HC1 hbox
    obtain ⟨k,s',rfl,hk,hs4,hs5,HE,HG1,HC1⟩:=hrel
    have HIN2:=Ak (LvIn.stay HIN.out (chg_below HC1.out hBg (Nat.le_of_lt (Nat.lt_of_le_of_lt hBg hglt))))
    by_cases hlt:k<m
    ·have hlt2:k<ks.length:=by rw [← HM.out];exact hlt
     obtain ⟨x,hx⟩:∃ x,ks[k]?=some x:=⟨_,List.getElem?_eq_getElem hlt2⟩
     obtain ⟨A',c',hcs,hin⟩:=HIN2.out.kid k x hx
     obtain ⟨ad,rfl,hc1,hc2,hc3⟩:=hcs.facts
     clear hcs
     have HX:=Ak hx
     have HXIN:=Ak hin
     clear hx hin hlt2
     have hglt2:=blk_lt HG1.out
     by_cases h2:(walkP sndF x (d+1) s').1=0
     ·have hsm:=walkP_small sndF_small x (d+1) s' hs4 h2
      have HK:=Ak ((walkKs_go (r:=ks.drop (k+1)) h2).symm.trans ((congrArg (fun l=>walkKs sndF l (d+1) s') (drop_kid HX.out)).symm.trans HE.out))
      obtain ⟨e2,s2,hes⟩:∃ a b,walkP sndF x (d+1) s'=(a,b):=⟨_,_,rfl⟩
      have HV:=Ak hes
      rw [hes] at hsm h2 HK
      simp only at hsm h2 HK
      subst h2
      have hs6:=hsm.1
      have hs7:=hsm.2
      clear hes hsm
      go_wp2_with (go_at_call 110;go_must (refine (IH.out x (Nat.lt_of_lt_of_le (kid_small HX.out) (Nat.le_of_lt_succ hN)) A' c' (d+1) s' g B _ (LvIn.stay HXIN.out ((Below.refl _ _).alloc (Nat.le_of_lt (Nat.lt_of_le_of_lt hBg hglt2)) _)) (HG1.out.alloc _) hBg hs4 hs5 (by omega) (by omega)).mono ?_;rintro e w2 ⟨rfl,hg1,hc1⟩;rw [HV.out] at hg1 ⊢;have HG2:=Ak hg1;have HC2:=Ak (chg_trans HC1.out (chg_trans (chg_alloc _ _ _) hc1));clear hg1 hc1))
      go_roundw
      case rel=>exact ⟨k+1,s2,by go_num,by omega,hs6,hs7,HK,HG2,HC2⟩
      case measure=>(simp [intOf];try omega)
     ·have HK:=Ak ((walkKs_stop (r:=ks.drop (k+1)) h2).symm.trans ((congrArg (fun l=>walkKs sndF l (d+1) s') (drop_kid HX.out)).symm.trans HE.out))
      obtain ⟨e2,s2,hes⟩:∃ a b,walkP sndF x (d+1) s'=(a,b):=⟨_,_,rfl⟩
      have HV:=Ak hes
      rw [hes] at h2
      have h2':(e2 != 0)=true:=by simpa using h2
      clear hes h2
      go_wp2_with (go_at_call 110;go_must (refine (IH.out x (Nat.lt_of_lt_of_le (kid_small HX.out) (Nat.le_of_lt_succ hN)) A' c' (d+1) s' g B _ (LvIn.stay HXIN.out ((Below.refl _ _).alloc (Nat.le_of_lt (Nat.lt_of_le_of_lt hBg hglt2)) _)) (HG1.out.alloc _) hBg hs4 hs5 (by omega) (by omega)).mono ?_;rintro e w2 ⟨rfl,hg1,hc1⟩;rw [HV.out] at hg1 ⊢;have HG2:=Ak hg1;have HC2:=Ak (chg_trans HC1.out (chg_trans (chg_alloc _ _ _) hc1));clear hg1 hc1))
      go_ret
      rw [← HK.out,HV.out]
      exact ⟨rfl,HG2.out,HC2.out⟩
    ·obtain rfl:k=m:=by omega
     have hlt':decide ((k:Int)<k)=false:=by simp
     have HW:=Ak (show walkP sndF (.mk lk ln ks) d s=(0,s') by rw [← HE.out,List.drop_of_length_le (by rw [← HM.out];exact Nat.le_refl _),walkKs])
     go_wp2
     go_ret
     rw [HW.out]
     exact ⟨rfl,HG1.out,HC1.out⟩
  ·have HE:=Ak (walkP_stop h1)
   have h1':((sndF (.mk lk ln ks) d s).1 != 0)=true:=by simp [h1]
   obtain ⟨e1,s1,hes⟩:∃ a b,sndF (.mk lk ln ks) d s=(a,b):=⟨_,_,rfl⟩
   have HV:=Ak hes
   rw [hes] at h1'
   simp only at h1'
   clear h1 hes
   go_wp2_with (go_at_call 123;go_must (refine (sound1_at A c lk ln ks m d s g _ HM.out hl9 (HG.out.alloc _) hs0 hs1 hd0 hd1).mono ?_;rintro e w1 ⟨rfl,hg1,hc1⟩;rw [HV.out] at hg1 ⊢;have HG1:=Ak hg1;have HC1:=Ak (chg_trans (chg_alloc _ _ _) hc1);clear hg1 hc1))
   go_ret
   rw [HE.out,HV.out]
   exact ⟨rfl,HG1.out,HC1.out⟩
theorem two_below {w w':World} {o o':Obj} (h:Chg (fun k=>k=w.heap.size+1) ((w.alloc o).alloc o') w'):Below w.heap.size w w':=
 Chg.trans_below (below_alloc (below_alloc (Below.refl _ _) _) _) h (fun _ e=>by omega) (by simp;omega)
def soundB (l:Lv):Bool:=(walkP sndF l 1 0).1 == 0

set_option maxHeartbeats 2000000 in
theorem sound_calls (A:Option Addr) (c:Nat) (l:Lv) (w:World) (hin:LvIn w w.heap.size A c l) :
  Calls Try.prog 109 #[lvV A c l] w fun e w'=>e=.returned (.bool (soundB l))∧Below w.heap.size w w':=by
 have HIN:=Ak hin
 clear hin
 unfold lvV
 go_enter Try.func109,Try.ntmps109
 have hnew:NumAt ((w.alloc (.cells #[.int .i64 l.kind,.int .i64 l.num,.slice A l.kids.length c] 25 (0,0))).alloc (.cells #[.int .i64 0] 3 (0,0))) (w.heap.size+1) 0:=by
  have:=blk_new (w.alloc (.cells #[.int .i64 l.kind,.int .i64 l.num,.slice A l.kids.length c] 25 (0,0))) (.cells #[.int .i64 0] 3 (0,0))
  simpa [NumAt] using this
 have HNEW:=Ak hnew
 clear hnew
 go_wp2_with (go_at_call 110;go_must (refine (walk_sound _ l (Nat.lt_succ_self _) A c 1 0 (w.heap.size+1) w.heap.size _ (LvIn.stay HIN.out (below_alloc (below_alloc (Below.refl _ _) _) _)) HNEW.out (Nat.le_succ _) (by decide) (by decide) (by decide) (by decide)).mono ?_;rintro e w1 ⟨rfl,-,hc⟩;have HB:=Ak (two_below hc);clear hc))
 go_ret
 exact ⟨rfl,HB.out⟩
end Go.Proofs.Ytdboloabpjmgaaa

namespace Go.Proofs.Ytdboloabpjmgaaa
open Go.RowKit Go.Proofs.YtdboloabpjmgaaaW.PrintWords Go.RegionInvYtdboloabpjmgaaa

def KidsAt (w:World) (lo:Nat) (V:Value) (xs:List Lv):Prop:=
 ∃ (cells:List Value) (fA:Nat→Option Addr) (fc:Nat→Nat),w.ownsRow lo 25 3 V xs.length cells ∧
  ∀ (i:Nat) (x:Lv),xs[i]?=some x→cells[i * 3]?=some (.int .i64 x.kind)∧cells[i * 3+1]?=some (.int .i64 x.num)∧cells[i * 3+2]?=some (.slice (fA i) x.kids.length (fc i))∧LvS w (fun b=>lo≤b∧V.ownBlock≠some b) (fA i) (fc i) x
theorem KidsAt.nil (w:World) (lo:Nat):KidsAt w lo (.slice none 0 0) []:=⟨[],fun _=>none,fun _=>0,own_nil _ _ _ _,fun i x h=>by simp at h⟩
theorem KidsAt.later {w w':World} {lo:Nat} {V:Value} {xs:List Lv} (h:KidsAt w lo V xs) (hb:Below w.heap.size w w'):KidsAt w' lo V xs:=by
 obtain ⟨cells,fA,fc,ho,hk⟩:=h
 exact ⟨cells,fA,fc,pw_own_below ho hb,fun i x hx=>⟨(hk i x hx).1,(hk i x hx).2.1,(hk i x hx).2.2.1,(hk i x hx).2.2.2.later hb⟩⟩
theorem own_len {w:World} {base n:Nat} {e:TypeId} {size:Nat} {v:Value} {xs:List Value} (h:w.ownsRow base e size v n xs):xs.length=n * size:=h.1
theorem KidsAt.other {w w':World} {lo g:Nat} {V:Value} {xs:List Lv} (h:KidsAt w lo V xs) (hc:Chg (fun k=>k=g) w w') (hg:g<lo):KidsAt w' lo V xs:=by
 obtain ⟨cells,fA,fc,ho,hk⟩:=h
 refine ⟨cells,fA,fc,ownsRow_same ho fun k hk=>hc.block k (own_lt ho k hk) (by have:=own_base ho k hk;omega),fun i x hx=>?_⟩
 obtain ⟨h1,h2,h3,h4⟩:=hk i x hx
 exact ⟨h1,h2,h3,h4.same fun k hs hz=>hc.block k hz (by omega)⟩
theorem KidsAt.push {w w1:World} {lo:Nat} {V v1:Value} {xs:List Lv} {x:Lv} {A:Option Addr} {c:Nat} {cells:List Value} {fA:Nat→Option Addr} {fc:Nat→Nat} (ho:w.ownsRow lo 25 3 V xs.length cells)
  (hk:∀ (i:Nat) (x:Lv),xs[i]?=some x→cells[i * 3]?=some (.int .i64 x.kind)∧cells[i * 3+1]?=some (.int .i64 x.num)∧cells[i * 3+2]?=some (.slice (fA i) x.kids.length (fc i))∧LvS w (fun b=>lo≤b∧V.ownBlock≠some b) (fA i) (fc i) x)
  (hx:LvS w (fun b=>lo≤b∧V.ownBlock≠some b) A c x) (ho1:w1.ownsRow lo 25 3 v1 (xs.length+1) (cells ++ [.int .i64 x.kind,.int .i64 x.num,.slice A x.kids.length c]))
  (hg:w.grownBy w1 V.ownBlock) (hat:v1.ownBlock=V.ownBlock∨∃ b,v1.ownBlock=some b∧w.heap.size≤b):KidsAt w1 lo v1 (xs ++ [x]):=by
 have keep:∀ {A:Option Addr} {c:Nat} {y:Lv},LvS w (fun b=>lo≤b∧V.ownBlock≠some b) A c y→LvS w1 (fun b=>lo≤b∧v1.ownBlock≠some b) A c y:=by
  intro A c y h
  have h1:LvS w (fun b=>(lo≤b∧V.ownBlock≠some b)∧v1.ownBlock≠some b) A c y:=h.mono fun k hk hz=>⟨hk,by
   rcases hat with e | ⟨b,e,hb⟩
   ·rw [e];exact hk.2
   ·rw [e];intro h;injection h with h;omega⟩
  exact (h1.same fun k hs hz=>hg.block k hz fun e=>hs.1.2 e.symm).mono fun k hs _=>⟨hs.1.1,hs.2⟩
 have hl:=own_len ho
 refine ⟨_,fun i=>if i=xs.length then A else fA i,fun i=>if i=xs.length then c else fc i,by simpa using ho1,fun i y hy=>?_⟩
 rcases Nat.lt_or_ge i xs.length with hi | hi
 ·rw [List.getElem?_append_left hi] at hy
  obtain ⟨h1,h2,h3,h4⟩:=hk i y hy
  rw [List.getElem?_append_left (by omega),List.getElem?_append_left (by omega),List.getElem?_append_left (by omega)]
  simp only [if_neg (show ¬ i=xs.length by omega)]
  exact ⟨h1,h2,h3,keep h4⟩
 ·rw [List.getElem?_append_right hi] at hy
  have hi2:i=xs.length:=by
   cases e:i - xs.length with
   | zero=>omega
   | succ j=>rw [e] at hy;simp at hy
  subst hi2
  obtain rfl:x=y:=by simpa using hy
  rw [List.getElem?_append_right (by omega),List.getElem?_append_right (by omega),List.getElem?_append_right (by omega)]
  simp only [↓reduceIte]
  rw [show xs.length * 3 - cells.length=0 by omega,show xs.length * 3+1 - cells.length=1 by omega,show xs.length * 3+2 - cells.length=2 by omega]
  exact ⟨rfl,rfl,rfl,keep hx⟩
theorem KidsAt.level {w:World} {lo:Nat} {V:Value} {xs:List Lv} (h:KidsAt w lo V xs):∃ A c,V=.slice A xs.length c∧∀ k n,LvS w (fun b=>lo≤b) A c (.mk k n xs):=by
 obtain ⟨cells,fA,fc,ho,hk⟩:=h
 obtain ⟨A,c,rfl⟩:=own_slice ho
 refine ⟨A,c,rfl,fun k n=>.mk fA fc (own_cap ho) ?_ (fun i x hx=>?_) (fun i x hx=>(hk i x hx).2.2.2.mono fun b hb _=>hb.1)⟩
 ·rcases ho.2 with ⟨h1,_⟩ | ⟨g,cap,cur,h1,_,_,h2,h3,_⟩
  ·injection h1 with _ _ h1;omega
  ·injection h1 with _ _ h1
   subst h1
   simp only [maxLen] at h3
   omega
 ·have hi:i<xs.length:=by
   rcases Nat.lt_or_ge i xs.length with h | h
   ·exact h
   ·rw [List.getElem?_eq_none h] at hx;cases hx
  obtain ⟨g,cap,hv,hb,_⟩:=ho.form (by omega)
  obtain ⟨h1,h2,h3,_⟩:=hk i x hx
  have hv':=hv
  injection hv with hA
  exact ⟨⟨g,0,none⟩,hA,hb,rfl,ho.cells (g:=g) (by rw [hv'];rfl) _ _ h1,ho.cells (g:=g) (by rw [hv'];rfl) _ _ h2,ho.cells (g:=g) (by rw [hv'];rfl) _ _ h3⟩

mutual
def cpP:Lv→Lv | .mk k n ks=>.mk k (if k=4 then 0 else n) (cpKs ks)
def cpKs:List Lv→List Lv | []=>[] | x :: r=>cpP x :: cpKs r
end
theorem cpKs_map (ks:List Lv):cpKs ks=ks.map cpP:=by
 induction ks with
 | nil=>rfl
 | cons x r ih=>rw [cpKs,ih];rfl
inductive Good:Lv→Prop
 | mk {k n:Int} {ks:List Lv} (h:rightP (.mk k n ks) 1099511627776 1000=true) (hk:∀ x∈ks,Good x):Good (.mk k n ks)
mutual
theorem good_of_walk:(l:Lv)→(d s:Int)→0≤s→(walkP sndF l d s).1=0→Good l
 | .mk k n ks,d,s,h0,h=>by
  by_cases h1:(sndF (.mk k n ks) d s).1=0
  ·have h2:=sndF_small' h0 h1
   rw [walkP_go h1,h2.2.2.2] at h
   exact .mk h2.2.2.1 (goods_of_walk ks (d+1) (s+1) (by omega) h2.1 h)
  ·rw [walkP_stop h1] at h;exact absurd h h1
theorem goods_of_walk:(ks:List Lv)→(d s:Int)→0≤s→s≤1000→(walkKs sndF ks d s).1=0→∀ x∈ks,Good x
 | [],_,_,_,_,_=>fun x hx=>by cases hx
 | y :: r,d,s,h0,h1,h=>by
  by_cases h2:(walkP sndF y d s).1=0
  ·rw [walkKs_go h2] at h
   have h3:=walkP_small sndF_small y d s h0 h2
   have h4:=good_of_walk y d s h0 h2
   have h5:=goods_of_walk r d _ h3.1 h3.2 h
   intro x hx
   rcases List.mem_cons.1 hx with rfl | hx
   ·exact h4
   ·exact h5 x hx
  ·rw [walkKs_stop h2] at h;exact absurd h h2
end
theorem good_of_sound {l:Lv} (h:soundB l=true):Good l:=good_of_walk l 1 0 (by decide) (by simpa [soundB] using h)
theorem arity_le (k:Int):arityP k≤2:=by
 unfold arityP
 split
 ·omega
 ·split
  ·omega
  ·split <;> omega
theorem right_two {l:Lv} (h:rightP l 1099511627776 1000=true):l.kids.length≤2:=by
 unfold rightP at h
 split at h
 ·cases h
 ·rename_i h1
  have:(l.kids.length:Int)=arityP l.kind:=by simpa using h1
  have:=arity_le l.kind
  omega
theorem Good.two {k n:Int} {ks:List Lv} (h:Good (.mk k n ks)):ks.length≤2:=by
 cases h with
 | mk h _=>exact right_two h
theorem Good.kid {k n:Int} {ks:List Lv} (h:Good (.mk k n ks)) {i:Nat} {x:Lv} (hx:ks[i]?=some x):Good x:=by
 cases h with
 | mk _ hk=>exact hk x (List.mem_of_getElem? hx)
end Go.Proofs.Ytdboloabpjmgaaa

namespace Go.Proofs.Ytdboloabpjmgaaa
open Go.RowKit Go.Proofs.YtdboloabpjmgaaaW.PrintWords Go.RegionInvYtdboloabpjmgaaa

theorem infoLv:(Try.prog.info? 25).map (fun i=>(i.zero,i.size,i.bytes))=some (some (.agg #[.int .i64 0,.int .i64 0,.slice none 0 0]),3,40):=by kernel_rfl
def LvPost (w:World) (l:Lv) (e:Ending) (w':World):Prop:=∃ A c,e=.returned (lvV A c l)∧LvS w' (fun b=>w.heap.size≤b) A c l∧Below w.heap.size w w'

theorem cpKs_len (ks:List Lv):(cpKs ks).length=ks.length:=by rw [cpKs_map];simp
theorem cpKs_snoc {ks:List Lv} {k:Nat} {x:Lv} (h:ks[k]?=some x):cpKs (ks.take (k+1))=cpKs (ks.take k) ++ [cpP x]:=by
 rw [cpKs_map,cpKs_map,List.take_add_one,h];simp
structure CpIn (w w5:World) (lk n':Int) (V:Value) (xs:List Lv) (A5:Option Addr) (c5:Nat) (x:Lv):Prop where
 o:w5.heap[w.heap.size+1+1]?=some (.cells #[.int .i64 lk,.int .i64 n',V] 25 (0,0))
 res:w5.heap[w.heap.size+1]?=some (.cells #[.int .i64 0,.int .i64 0,.slice none 0 0] 25 (0,0))
 kids:KidsAt w5 (w.heap.size+3) V xs
 bel:Below w.heap.size w w5
 kid:LvS w5 (fun b=>w.heap.size+3≤b∧V.ownBlock≠some b) A5 c5 x
theorem CpIn.cell {w w5:World} {lk n':Int} {V:Value} {xs:List Lv} {A5:Option Addr} {c5:Nat} {x:Lv} (h:CpIn w w5 lk n' V xs A5 c5 x):w5.cell? ⟨w.heap.size+1+1,2,none⟩=some V:=by
 rw [cell_of_row _ _ _ _ _ _ h.o];rfl
theorem CpIn.cell2 {w w5:World} {lk n':Int} {V:Value} {xs:List Lv} {A5:Option Addr} {c5:Nat} {x:Lv} (h:CpIn w w5 lk n' V xs A5 c5 x) (ob:Obj):(w5.alloc ob).cell? ⟨w.heap.size+1+1,2,none⟩=some V:=by
 rw [cell_of_row _ _ _ _ _ _ (blk_alloc h.o ob)];rfl
theorem copied_in {w wr W3 w5:World} {lk n':Int} {V:Value} {xs:List Lv} {A5:Option Addr} {c5:Nat} {x:Lv} (ho:wr.heap[w.heap.size+1+1]?=some (.cells #[.int .i64 lk,.int .i64 n',V] 25 (0,0)))
  (hr:wr.heap[w.heap.size+1]?=some (.cells #[.int .i64 0,.int .i64 0,.slice none 0 0] 25 (0,0))) (hk:KidsAt wr (w.heap.size+3) V xs) (hb:Below w.heap.size w wr) (hb3:Below wr.heap.size wr W3) (hb5:Below W3.heap.size W3 w5) (hl:LvS w5 (fun b=>W3.heap.size≤b) A5 c5 x):CpIn w w5 lk n' V xs A5 c5 x:=by
 have hbb:Below wr.heap.size wr w5:=below_then hb3 hb3.size hb5
 have hlt:=blk_lt ho
 refine ⟨blk_below ho hbb,blk_below hr hbb,hk.later hbb,below_then hb hb.size hbb,hl.mono fun b hb' _=>⟨by have:=hb3.size;omega,fun e=>?_⟩⟩
 obtain ⟨cells,fA,fc,hown,_⟩:=hk
 have:=own_lt hown b e
 have:=hb3.size
 omega
theorem CpIn.drew {w w5:World} {lk n':Int} {V:Value} {xs:List Lv} {A5:Option Addr} {c5:Nat} {x:Lv} (h:CpIn w w5 lk n' V xs A5 c5 x):CpIn w w5.drew lk n' V xs A5 c5 x:=
 ⟨h.o,h.res,h.kids.later (below_drew (Below.refl _ _)),below_drew h.bel,h.kid.later (below_drew (Below.refl _ _))⟩
theorem copied_base {w w5:World} {lk n':Int} {V:Value} {xs:List Lv} {A5:Option Addr} {c5:Nat} {x:Lv} (h:CpIn w w5 lk n' V xs A5 c5 x):w.heap.size+3≤w5.heap.size:=by have:=blk_lt h.o;omega
structure CpOut (w w6:World) (lk n':Int) (V V6:Value) (xs:List Lv):Prop where
 o:w6.heap[w.heap.size+1+1]?=some (.cells #[.int .i64 lk,.int .i64 n',V] 25 (0,0))
 res:w6.heap[w.heap.size+1]?=some (.cells #[.int .i64 0,.int .i64 0,.slice none 0 0] 25 (0,0))
 kids:KidsAt w6 (w.heap.size+3) V6 xs
 bel:Below w.heap.size w w6
theorem CpOut.cell {w w6:World} {lk n':Int} {V V6:Value} {xs:List Lv} (h:CpOut w w6 lk n' V V6 xs):w6.cell? ⟨w.heap.size+1+1,2,none⟩=some V:=by
 rw [cell_of_row _ _ _ _ _ _ h.o];rfl
theorem copied_push {w w5 w6:World} {lk n':Int} {V v6:Value} {xs:List Lv} {A5:Option Addr} {c5:Nat} {x:Lv} {cells:List Value} {fA:Nat→Option Addr} {fc:Nat→Nat} (h:CpIn w w5 lk n' V xs A5 c5 x)
  (ho:w5.ownsRow (w.heap.size+3) 25 3 V xs.length cells)
  (hk:∀ (i:Nat) (x:Lv),xs[i]?=some x→cells[i * 3]?=some (.int .i64 x.kind)∧cells[i * 3+1]?=some (.int .i64 x.num)∧cells[i * 3+2]?=some (.slice (fA i) x.kids.length (fc i))∧LvS w5 (fun b=>w.heap.size+3≤b∧V.ownBlock≠some b) (fA i) (fc i) x)
  (ho1:w6.ownsRow (w.heap.size+3) 25 3 v6 (xs.length+1) (cells ++ [.int .i64 x.kind,.int .i64 x.num,.slice A5 x.kids.length c5])) (hg:w5.grownBy w6 V.ownBlock) (hat:v6.ownBlock=V.ownBlock∨∃ b,v6.ownBlock=some b∧w5.heap.size≤b):CpOut w w6 lk n' V v6 (xs ++ [x]):=by
 have far:∀ k,k<w.heap.size+3→some k≠V.ownBlock:=fun k hk e=>by have:=own_base ho k e.symm;omega
 refine ⟨?_,?_,KidsAt.push ho hk h.kid ho1 hg hat,⟨hg.os.trans h.bel.os,hg.tape.trans h.bel.tape,hg.output.trans h.bel.output,Nat.le_trans h.bel.size hg.size,fun i hi=>?_⟩⟩
 ·rw [hg.block _ (blk_lt h.o) (far _ (by omega))];exact h.o
 ·rw [hg.block _ (blk_lt h.res) (far _ (by omega))];exact h.res
 ·rw [hg.block i (Nat.lt_of_lt_of_le hi h.bel.size) (far i (by omega))];exact h.bel.block i hi
theorem results_c {P:Program} {fn:Func} {p:Tmp} {ty:TypeId} (h:fn.results = #[.cell p ty]) (tmps:Array Value) (w:World) (g:Nat) (t:TypeId) (cs:Array Value) (fr:Nat × Nat) (d:TypeDesc)
  (hp:tmps.getD p undef=.pointer (some ⟨g,0,none⟩)) (hg:w.heap[g]?=some (.cells cs t fr))
  (hu:P.underlying ty=some d) (hd:(match d with | .struct _ | .array _ _=>true | _=>false)=true) (hi:(P.info? ty).map (·.size)=some cs.size) :
  (results fn tmps).run P w=.ok (.agg cs) w:=by
 have hp':tmps[p]?.getD undef=.pointer (some ⟨g,0,none⟩):=by simpa using hp
 simp [results,h,hp',asAddr,run_loadVar_row w g t ty cs fr d hg hu hd hi]
theorem set3 {w:World} {g:Nat} {x y z a b c:Value} {t:TypeId} (h:w.heap[g]?=some (.cells #[x,y,z] t (0,0))) :
  (((w.setCell ⟨g,0,none⟩ a).setCell ⟨g,1,none⟩ b).setCell ⟨g,2,none⟩ c).heap[g]?=some (.cells #[a,b,c] t (0,0)):=blk_put (blk_put (blk_put h 0 a rfl) 1 b rfl) 2 c rfl
theorem chg_set3 (w:World) (g:Nat) (a b c:Value):Chg (fun k=>k=g) w (((w.setCell ⟨g,0,none⟩ a).setCell ⟨g,1,none⟩ b).setCell ⟨g,2,none⟩ c):=chg_trans (chg_trans (chg_set _ _ _ _) (chg_set _ _ _ _)) (chg_set _ _ _ _)
theorem copied_fin {w w6:World} {lk n':Int} {V V6:Value} {xs ys:List Lv} (h:CpOut w w6 lk n' V V6 xs) (e:ys=xs) :
  ∃ v5,Aside0 ((w6.setCell ⟨w.heap.size+1+1,2,none⟩ V6).heap[w.heap.size+1+1]?=some (.cells #[.int .i64 lk,.int .i64 n',v5] 25 (0,0)))∧Aside0 ((w6.setCell ⟨w.heap.size+1+1,2,none⟩ V6).heap[w.heap.size+1]?=some (.cells #[.int .i64 0,.int .i64 0,.slice none 0 0] 25 (0,0))) ∧
   Aside0 (KidsAt (w6.setCell ⟨w.heap.size+1+1,2,none⟩ V6) (w.heap.size+3) v5 ys)∧Aside0 (Below w.heap.size w (w6.setCell ⟨w.heap.size+1+1,2,none⟩ V6)):=by
 subst e
 have hch:=chg_set w6 (w.heap.size+1+1) 2 V6
 exact ⟨V6,⟨blk_put h.o 2 V6 rfl⟩,⟨(hch.block _ (blk_lt h.res) (by omega)).trans h.res⟩,⟨h.kids.other hch (by omega)⟩,⟨Chg.trans_below h.bel hch (fun _ e=>by omega) h.bel.size⟩⟩
set_option maxHeartbeats 4000000 in
theorem copied_calls (N:Nat):∀ (l:Lv),SizeOf.sizeOf l<N→Good l→∀ (A:Option Addr) (c:Nat) (w:World),LvIn w w.heap.size A c l→Calls Try.prog 130 #[lvV A c l] w (LvPost w (cpP l)):=by
 induction N with
 | zero=>intro l h;omega
 | succ N ih =>
  rintro ⟨lk,ln,ks⟩ hN hgood A c w hin
  have IH:=Ak ih
  have HIN:=Ak hin
  have hlen:=hgood.two
  have HGOOD:=Ak hgood
  clear ih hin hgood
  unfold lvV
  simp only [Lv.kind,Lv.num,Lv.kids]
  obtain ⟨m,hm⟩:∃ m,m=ks.length:=⟨_,rfl⟩
  rw [← hm] at hlen ⊢
  have HM:=Ak hm
  clear hm
  go_enter Try.func130,Try.ntmps130
  go_upto_if 11 with (fail)
  go_cut [] (fun w2=>w2=((w.alloc (.cells #[.int .i64 lk,.int .i64 ln,.slice A m c] 25 (0,0))).alloc (.cells #[.int .i64 0,.int .i64 0,.slice none 0 0] 25 (0,0))).alloc (.cells #[.int .i64 lk,.int .i64 (if lk=4 then 0 else ln),.slice none 0 0] 25 (0,0)))
  case first =>
   by_cases h4:lk=4
   ·have h4':(lk != 4)=false:=by simp [h4]
    have HZ:=Ak (show (if lk=4 then 0 else ln)=0 from if_pos h4)
    clear h4
    go_wp2
    go_meet
    case rel=>rw [HZ.out]
   ·have h4':(lk != 4)=true:=by simp [h4]
    have HZ:=Ak (show (if lk=4 then 0 else ln)=ln from if_neg h4)
    clear h4
    go_wp2
    go_meet
    case rel=>rw [HZ.out]
  case rest =>
   subst hcut
   obtain ⟨n',hn'⟩:∃ n',n'=(if lk=4 then 0 else ln):=⟨_,rfl⟩
   rw [← hn']
   have HN':=Ak hn'
   clear hn'
   go_wp2
   go_loopw [18] (fun i wr=>∃ (k:Nat) (V:Value),i=.int .i64 k∧k≤m∧Aside0 (wr.heap[w.heap.size+1+1]?=some (.cells #[.int .i64 lk,.int .i64 n',V] 25 (0,0)))∧Aside0 (wr.heap[w.heap.size+1]?=some (.cells #[.int .i64 0,.int .i64 0,.slice none 0 0] 25 (0,0)))∧Aside0 (KidsAt wr (w.heap.size+3) V (cpKs (ks.take k)))∧Aside0 (Below w.heap.size w wr)) (fun i _=>m - (intOf i).toNat)
   case atStart =>
    have hb3:Below w.heap.size w (((w.alloc (.cells #[.int .i64 lk,.int .i64 ln,.slice A m c] 25 (0,0))).alloc (.cells #[.int .i64 0,.int .i64 0,.slice none 0 0] 25 (0,0))).alloc (.cells #[.int .i64 lk,.int .i64 n',.slice none 0 0] 25 (0,0))):=below_alloc (below_alloc (below_alloc (Below.refl _ _) _) _) _
    refine ⟨0,.slice none 0 0,rfl,Nat.zero_le _,⟨?_⟩,⟨?_⟩,⟨KidsAt.nil _ _⟩,⟨hb3⟩⟩
    ·have:=blk_new ((w.alloc (.cells #[.int .i64 lk,.int .i64 ln,.slice A m c] 25 (0,0))).alloc (.cells #[.int .i64 0,.int .i64 0,.slice none 0 0] 25 (0,0))) (.cells #[.int .i64 lk,.int .i64 n',.slice none 0 0] 25 (0,0))
     simpa using this
    ·have:=blk_alloc (blk_new (w.alloc (.cells #[.int .i64 lk,.int .i64 ln,.slice A m c] 25 (0,0))) (.cells #[.int .i64 0,.int .i64 0,.slice none 0 0] 25 (0,0))) (.cells #[.int .i64 lk,.int .i64 n',.slice none 0 0] 25 (0,0))
     simpa using this
   case round =>
    obtain ⟨k,V,rfl,hk,HO,HRES,HK,HB⟩:=hrel
    by_cases hlt:k<m
    ·have hlt2:k<ks.length:=by rw [← HM.out];exact hlt
     obtain ⟨x,hx⟩:∃ x,ks[k]?=some x:=⟨_,List.getElem?_eq_getElem hlt2⟩
     have hin2:LvIn wr w.heap.size A c (.mk lk ln ks):=LvIn.stay HIN.out HB.out
     obtain ⟨A',c',hcs,hxin⟩:=hin2.kid k x hx
     obtain ⟨ad,rfl,hc1,hc2,hc3⟩:=hcs.facts
     have HX:=Ak hx
     have HXIN:=Ak hxin
     have hxk:x.kids.length≤9223372036854775807:=by have:=hxin.len;omega
     clear hcs hx hxin hlt2 hin2
     have hco:=blk_alloc HO.out (.cells #[.int .i64 x.kind,.int .i64 x.num,.slice A' x.kids.length c'] 25 (0,0))
     have hcv:(wr.alloc (.cells #[.int .i64 x.kind,.int .i64 x.num,.slice A' x.kids.length c'] 25 (0,0))).cell? ⟨w.heap.size+1+1,2,none⟩=some V:=by
      rw [cell_of_row _ _ _ _ _ _ hco];rfl
     have hcz:=blk_frozen hco 2
     clear hco
     go_upto_block 1 with (fail)
     go_cut [] (fun w5=>∃ v5,Aside0 (w5.heap[w.heap.size+1+1]?=some (.cells #[.int .i64 lk,.int .i64 n',v5] 25 (0,0)))∧Aside0 (w5.heap[w.heap.size+1]?=some (.cells #[.int .i64 0,.int .i64 0,.slice none 0 0] 25 (0,0)))∧Aside0 (KidsAt w5 (w.heap.size+3) v5 (cpKs (ks.take (k+1))))∧Aside0 (Below w.heap.size w w5))
     case first =>
      go_upto_region 7 with (fail)
      go_region_law (first
       | (go_simp;go_at_call 130;refine (IH.out x (Nat.lt_of_lt_of_le (kid_small HX.out) (Nat.le_of_lt_succ hN)) (HGOOD.out.kid HX.out) A' c' _ (LvS.all (HXIN.out.later (by repeat' first | exact Below.refl _ _ | apply below_drew | apply below_alloc)))).mono ?_;rintro e w5 ⟨A5,c5,rfl,hl5,hb5⟩;have ST5:=Ak (copied_in HO.out HRES.out HK.out HB.out (by repeat' first | exact Below.refl _ _ | apply below_drew | apply below_alloc) hb5 hl5);have hcv5:=ST5.out.cell;have hcz5:=blk_frozen ST5.out.o 2;have hcw5:=ST5.out.cell2 (.cells #[.int .i64 (cpP x).kind,.int .i64 (cpP x).num,.slice A5 (cpP x).kids.length c5] 25 (0,0));clear hl5 hb5;simp only [lvV])
       | (first
         | (have STA:=Ak ST5.out;obtain ⟨cells,fA,fc,hown,hkids⟩:=STA.out.kids;refine step_append_cells (w0:=w5) (W:=w5) (w.heap.size+3) (by simp [Region.wanted]) (.tmp 23) (.tmp 26) 23 25 _ 3 40 rfl Try.underlying23 infoLv rfl (by decide) (by decide) V (cpKs (ks.take k)).length cells [.int .i64 (cpP x).kind,.int .i64 (cpP x).num,.slice A5 (cpP x).kids.length c5] rfl rfl rfl (by simp [Value.oneCell']) hown (Below.refl _ _) (copied_base STA.out) (by rw [cpKs_len];simp;omega) ?_;intro v6 w6 ho6 _ hg6 hat6;obtain ⟨A6,c6,rfl⟩:=own_slice ho6;have ST6:=Ak (copied_push STA.out hown hkids ho6 hg6 hat6);have hcv6:=ST6.out.cell;have hcz6:=blk_frozen ST6.out.o 2;clear hown hkids ho6 hg6 hat6 STA)
         | (have STA:=Ak ST5.out.drew;obtain ⟨cells,fA,fc,hown,hkids⟩:=STA.out.kids;refine step_append_cells (w0:=w5.drew) (W:=w5.drew) (w.heap.size+3) (by simp [Region.wanted]) (.tmp 23) (.tmp 26) 23 25 _ 3 40 rfl Try.underlying23 infoLv rfl (by decide) (by decide) V (cpKs (ks.take k)).length cells [.int .i64 (cpP x).kind,.int .i64 (cpP x).num,.slice A5 (cpP x).kids.length c5] rfl rfl rfl (by simp [Value.oneCell']) hown (Below.refl _ _) (copied_base STA.out) (by rw [cpKs_len];simp;omega) ?_;intro v6 w6 ho6 _ hg6 hat6;obtain ⟨A6,c6,rfl⟩:=own_slice ho6;have ST6:=Ak (copied_push STA.out hown hkids ho6 hg6 hat6);have hcv6:=ST6.out.cell;have hcz6:=blk_frozen ST6.out.o 2;clear hown hkids ho6 hg6 hat6 STA)
         | (trace_state;fail)))
      all_goals (go_wp2;go_meet)
      all_goals (exact copied_fin ST6.out (cpKs_snoc HX.out))
     case rest =>
      clear HO HRES HK HB HXIN hc1 hc2 hc3 hcv hcz
      obtain ⟨V2,HO,HRES,HK,HB⟩:=hcut
      go_wp2
      go_roundw
      case rel=>exact ⟨k+1,V2,by go_num,by omega,HO,HRES,HK,HB⟩
      case measure=>(simp [intOf];try omega)
    ·obtain rfl:k=m:=by omega
     have hlt':decide ((k:Int)<k)=false:=by simp
     obtain ⟨A9,c9,rfl,hlv⟩:=HK.out.level
     have HLV:=Ak hlv
     have hlen9:(cpKs (ks.take k)).length=k:=by rw [cpKs_len];simp;have:=HM.out;omega
     rw [hlen9] at HO
     have hd0:wr.cell? ⟨w.heap.size+1+1,0,none⟩=some (.int .i64 lk):=by rw [cell_of_row _ _ _ _ _ _ HO.out];rfl
     have hd1:wr.cell? ⟨w.heap.size+1+1,1,none⟩=some (.int .i64 n'):=by rw [cell_of_row _ _ _ _ _ _ HO.out];rfl
     have hd2:wr.cell? ⟨w.heap.size+1+1,2,none⟩=some (.slice A9 k c9):=by rw [cell_of_row _ _ _ _ _ _ HO.out];rfl
     have he0:wr.cell? ⟨w.heap.size+1,0,none⟩=some (.int .i64 0):=by rw [cell_of_row _ _ _ _ _ _ HRES.out];rfl
     have he1:wr.cell? ⟨w.heap.size+1,1,none⟩=some (.int .i64 0):=by rw [cell_of_row _ _ _ _ _ _ HRES.out];rfl
     have he2:wr.cell? ⟨w.heap.size+1,2,none⟩=some (.slice none 0 0):=by rw [cell_of_row _ _ _ _ _ _ HRES.out];rfl
     have hf0:=blk_frozen HRES.out 0
     have hf1:=blk_frozen HRES.out 1
     have hf2:=blk_frozen HRES.out 2
     clear hlv
     go_wp2
     refine bodyPost_ret (results_c rfl _ _ (w.heap.size+1) 25 #[.int .i64 lk,.int .i64 n',.slice A9 k c9] (0,0) _ rfl (set3 HRES.out) Try.underlying25 rfl (by kernel_rfl)) rfl ?_
     have hch:=chg_set3 wr (w.heap.size+1) (.int .i64 lk) (.int .i64 n') (.slice A9 k c9)
     have hkk:ks.take k=ks:=List.take_of_length_le (by have:=HM.out;omega)
     rw [hkk] at hlen9 HLV
     have hl:=HLV.out lk n'
     refine ⟨A9,c9,?_,?_,Chg.trans_below HB.out hch (fun _ e=>by omega) HB.out.size⟩
     ·show Ending.returned _=Ending.returned (lvV A9 c9 (.mk lk (if lk=4 then 0 else ln) (cpKs ks)))
      unfold lvV
      simp only [Lv.kind,Lv.num,Lv.kids]
      rw [← HN'.out,hlen9]
     ·show LvS _ _ A9 c9 (.mk lk (if lk=4 then 0 else ln) (cpKs ks))
      rw [← HN'.out]
      exact (hl.same fun b hb hz=>hch.block b hz (by omega)).mono fun b hb _=>by omega
end Go.Proofs.Ytdboloabpjmgaaa

namespace Go.Proofs.Ytdboloabpjmgaaa
open Go.RowKit Go.Proofs.YtdboloabpjmgaaaW.PrintWords Go.RegionInvYtdboloabpjmgaaa

structure Pl where
 A:Option Addr
 c:Nat
 B:Option Addr
 d:Nat
 K:Option Addr
 e:Nat
instance:Inhabited Pl:=⟨⟨none,0,none,0,none,0⟩⟩
inductive Tm where
 | mk (kind num:Int) (name:ByteArray) (lv:Lv) (ls:List Lv) (kids:List Tm)
def Tm.kind:Tm→Int | .mk k _ _ _ _ _=>k
def Tm.num:Tm→Int | .mk _ n _ _ _ _=>n
def Tm.name:Tm→ByteArray | .mk _ _ s _ _ _=>s
def Tm.lv:Tm→Lv | .mk _ _ _ l _ _=>l
def Tm.ls:Tm→List Lv | .mk _ _ _ _ l _=>l
def Tm.kids:Tm→List Tm | .mk _ _ _ _ _ k=>k
instance:Inhabited Tm:=⟨.mk 0 0 ByteArray.empty (.mk 0 0 []) [] []⟩
def tmC (p:Pl) (t:Tm):List Value:=[.int .i64 t.kind,.int .i64 t.num,.string t.name,.int .i64 t.lv.kind,.int .i64 t.lv.num,.slice p.A t.lv.kids.length p.c,.slice p.B t.ls.length p.d,.slice p.K t.kids.length p.e]
def tmV (p:Pl) (t:Tm):Value:=.agg #[.int .i64 t.kind,.int .i64 t.num,.string t.name,.int .i64 t.lv.kind,.int .i64 t.lv.num,.slice p.A t.lv.kids.length p.c,.slice p.B t.ls.length p.d,.slice p.K t.kids.length p.e]
theorem tmC_len (p:Pl) (t:Tm):(tmC p t).length=8:=rfl
def KidAt (w:World) (S:Nat→Prop) (K:Option Addr) (i:Nat) (q:Pl) (x:Tm):Prop:=
 ∃ b o,K=some ⟨b,o,none⟩∧S b∧∀ (j:Nat) (v:Value),(tmC q x)[j]?=some v→w.cell? ⟨b,o+i * 8+j,none⟩=some v
def Fit (n:Int) (nm:ByteArray) (ls:List Lv):Prop:=(-9223372036854775808≤n∧n≤9223372036854775807)∧nm.size≤140737488355328∧ls.length * 40≤140737488355328
inductive TmS (w:World) (S:Nat→Prop):Pl→Tm→Prop
 | mk {p:Pl} {k n:Int} {nm:ByteArray} {lv:Lv} {ls:List Lv} {ks:List Tm} (q:Nat→Pl) (hlv:LvS w S p.A p.c lv) (hls:LvS w S p.B p.d (.mk 0 0 ls)) (hc:ks.length≤p.e) (hm:p.e≤9223372036854775807) (hf:Fit n nm ls)
   (hcell:∀ (i:Nat) (x:Tm),ks[i]?=some x→KidAt w S p.K i (q i) x) (hk:∀ (i:Nat) (x:Tm),ks[i]?=some x→TmS w S (q i) x):TmS w S p (.mk k n nm lv ls ks)
abbrev TmIn (w:World) (B:Nat):Pl→Tm→Prop:=TmS w fun k=>k<B
theorem KidAt.same {w w':World} {S:Nat→Prop} {K:Option Addr} {i:Nat} {q:Pl} {x:Tm} (h:KidAt w S K i q x) (hs:∀ k,S k→k<w.heap.size→w'.heap[k]?=w.heap[k]?):KidAt w' S K i q x:=by
 obtain ⟨b,o,e,hb,hc⟩:=h
 have hz:b<w.heap.size:=World.block_lt_of_cell? w _ (hc 0 _ rfl)
 exact ⟨b,o,e,hb,fun j v hv=>(cell_same (hs b hb hz)).trans (hc j v hv)⟩
theorem KidAt.mono {w:World} {S S':Nat→Prop} {K:Option Addr} {i:Nat} {q:Pl} {x:Tm} (h:KidAt w S K i q x) (hs:∀ k,S k→k<w.heap.size→S' k):KidAt w S' K i q x:=by
 obtain ⟨b,o,e,hb,hc⟩:=h
 exact ⟨b,o,e,hs b hb (World.block_lt_of_cell? w _ (hc 0 _ rfl)),hc⟩
theorem TmS.same {w w':World} {S:Nat→Prop} {p:Pl} {t:Tm} (h:TmS w S p t) (hs:∀ k,S k→k<w.heap.size→w'.heap[k]?=w.heap[k]?):TmS w' S p t:=by
 induction h with
 | mk q hlv hls hc hm hf hcell _ ih=>exact .mk q (hlv.same hs) (hls.same hs) hc hm hf (fun i x hx=>(hcell i x hx).same hs) ih
theorem TmS.mono {w:World} {S S':Nat→Prop} {p:Pl} {t:Tm} (h:TmS w S p t) (hs:∀ k,S k→k<w.heap.size→S' k):TmS w S' p t:=by
 induction h with
 | mk q hlv hls hc hm hf hcell _ ih=>exact .mk q (hlv.mono hs) (hls.mono hs) hc hm hf (fun i x hx=>(hcell i x hx).mono hs) ih
theorem TmS.later {w w':World} {S:Nat→Prop} {p:Pl} {t:Tm} (h:TmS w S p t) (hb:Below w.heap.size w w'):TmS w' S p t:=h.same fun k _ hk=>hb.block k hk
theorem TmIn.stay {w w':World} {B:Nat} {p:Pl} {t:Tm} (h:TmIn w B p t) (hb:Below B w w'):TmIn w' B p t:=TmS.same h fun k hk _=>hb.block k hk
theorem TmS.all {w:World} {S:Nat→Prop} {p:Pl} {t:Tm} (h:TmS w S p t):TmIn w w.heap.size p t:=h.mono fun _ _ hk=>hk
theorem TmIn.mono {w:World} {B B':Nat} {p:Pl} {t:Tm} (h:TmIn w B p t) (hB:B≤B'):TmIn w B' p t:=TmS.mono h fun _ hk _=>Nat.lt_of_lt_of_le hk hB
theorem TmS.lv {w:World} {S:Nat→Prop} {p:Pl} {t:Tm} (h:TmS w S p t):LvS w S p.A p.c t.lv:=by cases h;assumption
theorem TmS.ls {w:World} {S:Nat→Prop} {p:Pl} {t:Tm} (h:TmS w S p t):LvS w S p.B p.d (.mk 0 0 t.ls):=by cases h;assumption
theorem TmS.len {w:World} {S:Nat→Prop} {p:Pl} {t:Tm} (h:TmS w S p t):t.kids.length≤p.e∧p.e≤9223372036854775807:=by
 cases h with
 | mk q hlv hls hc hm hf hcell hk=>exact ⟨hc,hm⟩
theorem TmS.fit {w:World} {S:Nat→Prop} {p:Pl} {t:Tm} (h:TmS w S p t):Fit t.num t.name t.ls:=by
 cases h with
 | mk q hlv hls hc hm hf hcell hk=>exact hf
theorem TmS.kid {w:World} {S:Nat→Prop} {p:Pl} {t:Tm} (h:TmS w S p t):∃ q:Nat→Pl,∀ (i:Nat) (x:Tm),t.kids[i]?=some x→KidAt w S p.K i (q i) x∧TmS w S (q i) x:=by
 cases h with
 | mk q hlv hls hc hm hf hcell hk=>exact ⟨q,fun i x hx=>⟨hcell i x hx,hk i x hx⟩⟩
def arZ (k:Int):Int:=if k=1∨k=2∨k=7 then 0 else if k=3∨k=4∨k=6 then 2 else if k=5 then 3 else -1
theorem arZ_in (k:Int):-1≤arZ k∧arZ k≤3:=by unfold arZ;split;omega;split;omega;split <;> omega
def nK (t:Tm):Nat:=if (t.kids.length:Int)<arZ t.kind then 0 else (arZ t.kind).toNat
theorem nK_le (t:Tm):nK t≤t.kids.length:=by unfold nK;have:=arZ_in t.kind;split <;> omega
theorem nK_le3 (t:Tm):nK t≤3:=by unfold nK;have:=arZ_in t.kind;split <;> omega
def moreZ (t:Tm) (i:Nat):Int:=if (i:Int)=arZ t.kind - 1∧t.kind≠6 then 1 else 0
theorem moreZ_in (t:Tm) (i:Nat):0≤moreZ t i∧moreZ t i≤1:=by unfold moreZ;split <;> omega
def kidF (t:Tm) (i:Fin (nK t)):Tm:=t.kids[i.1]'(Nat.lt_of_lt_of_le i.2 (nK_le t))
theorem kidF_get (t:Tm) (i:Fin (nK t)):t.kids[i.1]?=some (kidF t i):=List.getElem?_eq_getElem _
theorem kidF_lt (t:Tm) (i:Fin (nK t)):SizeOf.sizeOf (kidF t i)<SizeOf.sizeOf t:=by
 obtain ⟨k,n,nm,lv,ls,ks⟩:=t
 have h:SizeOf.sizeOf (kidF (.mk k n nm lv ls ks) i)<SizeOf.sizeOf ks:=List.sizeOf_lt_of_mem (List.getElem_mem _)
 simp only [Tm.mk.sizeOf_spec]
 omega
def leafT (t:Tm):Bool:=decide (nK t=0)
def runL {α σ:Type} (f:α→σ→Bool × σ):List α→σ→Bool × σ
 | [],s=>(true,s)
 | i :: r,s=>if (f i s).1=true then runL f r (f i s).2 else (false,(f i s).2)
theorem runL_snoc {α σ:Type} (f:α→σ→Bool × σ) (pre:List α) (x:α):∀ s:σ,runL f (pre ++ [x]) s=if (runL f pre s).1=true then f x (runL f pre s).2 else runL f pre s:=by
 induction pre with
 | nil =>
  intro s
  show (if (f x s).1=true then (true,(f x s).2) else (false,(f x s).2))=if true=true then f x s else (true,s)
  rw [if_pos rfl]
  cases h:(f x s).1 <;> simp [h] <;> (rw [← h])
 | cons y r ih =>
  intro s
  rw [List.cons_append,runL,runL]
  by_cases h:(f y s).1=true
  ·rw [if_pos h,if_pos h,ih]
  ·rw [if_neg h,if_neg h];rfl
theorem runL_false {α σ:Type} (f:α→σ→Bool × σ) {pre xs:List α} (hp:pre <+: xs):∀ s:σ,(runL f pre s).1=false→runL f xs s=runL f pre s:=by
 obtain ⟨r,rfl⟩:=hp
 induction pre with
 | nil=>intro s h;cases h
 | cons y q ih =>
  intro s h
  rw [List.cons_append,runL,runL] at *
  by_cases hy:(f y s).1=true
  ·rw [if_pos hy] at h;rw [if_pos hy,if_pos hy];exact ih _ h
  ·rw [if_neg hy,if_neg hy]
def foldP {σ:Type} (F:Tm→Int→Int→σ→Bool × σ) (t:Tm) (d b:Int) (s:σ):Bool × σ:=
 if (F t d b s).1=true then runL (fun (i:Fin (nK t)) s=>foldP F (kidF t i) (d+1) (b+moreZ t i) s) (List.finRange (nK t)) (F t d b s).2 else (false,(F t d b s).2)
termination_by SizeOf.sizeOf t
decreasing_by exact kidF_lt t i
theorem foldP_go {σ:Type} {F:Tm→Int→Int→σ→Bool × σ} {t:Tm} {d b:Int} {s:σ} (h:(F t d b s).1=true) :
  foldP F t d b s=runL (fun (i:Fin (nK t)) s=>foldP F (kidF t i) (d+1) (b+moreZ t i) s) (List.finRange (nK t)) (F t d b s).2:=by rw [foldP,if_pos h]
theorem foldP_stop {σ:Type} {F:Tm→Int→Int→σ→Bool × σ} {t:Tm} {d b:Int} {s:σ} (h:(F t d b s).1=false):foldP F t d b s=F t d b s:=by
 rw [foldP,if_neg (by rw [h];decide)];exact Prod.ext h.symm rfl
end Go.Proofs.Ytdboloabpjmgaaa

namespace Go.Proofs.Ytdboloabpjmgaaa
open Go.RowKit Go.Shelf Go.Proofs.YtdboloabpjmgaaaW.PrintWords Go.RegionInvYtdboloabpjmgaaa
attribute [local go_sem] Oper.semAt_some

theorem tar_calls (k:Int) (w:World):Calls Try.prog 104 #[.int .i64 k] w fun e w'=>e=.returned (.int .i64 (arZ k))∧w'=w:=by
 go_enter Try.func104,Try.ntmps104
 by_cases h1:k=1
 ·subst h1;go_wp2;go_ret;exact ⟨rfl,rfl⟩
 ·by_cases h2:k=2
  ·subst h2;go_wp2;go_ret;exact ⟨rfl,rfl⟩
  ·by_cases h7:k=7
   ·subst h7;go_wp2;go_ret;exact ⟨rfl,rfl⟩
   ·by_cases h3:k=3
    ·subst h3;go_wp2;go_ret;exact ⟨rfl,rfl⟩
    ·by_cases h4:k=4
     ·subst h4;go_wp2;go_ret;exact ⟨rfl,rfl⟩
     ·by_cases h6:k=6
      ·subst h6;go_wp2;go_ret;exact ⟨rfl,rfl⟩
      ·by_cases h5:k=5
       ·subst h5;go_wp2;go_ret;exact ⟨rfl,rfl⟩
       ·have HE:=Ak (show arZ k = -1 by unfold arZ;rw [if_neg (by omega),if_neg (by omega),if_neg h5])
        have b1:(k == 1)=false:=by simp [h1]
        have b2:(k == 2)=false:=by simp [h2]
        have b3:(k == 3)=false:=by simp [h3]
        have b4:(k == 4)=false:=by simp [h4]
        have b5:(k == 5)=false:=by simp [h5]
        have b6:(k == 6)=false:=by simp [h6]
        have b7:(k == 7)=false:=by simp [h7]
        go_wp2
        go_ret
        rw [HE.out]
        exact ⟨rfl,rfl⟩
abbrev tmO (p:Pl) (t:Tm):Obj:=.cells #[.int .i64 t.kind,.int .i64 t.num,.string t.name,.int .i64 t.lv.kind,.int .i64 t.lv.num,.slice p.A t.lv.kids.length p.c,.slice p.B t.ls.length p.d,.slice p.K t.kids.length p.e] 28 (0,0)
theorem row8 {w:World} {g:Nat} {p:Pl} {t:Tm} (h:w.heap[g]?=some (tmO p t)) :
  w.cell? ⟨g,0,none⟩=some (.int .i64 t.kind)∧w.cell? ⟨g,1,none⟩=some (.int .i64 t.num)∧w.cell? ⟨g,2,none⟩=some (.string t.name)∧w.cell? ⟨g,3,none⟩=some (.int .i64 t.lv.kind)∧w.cell? ⟨g,4,none⟩=some (.int .i64 t.lv.num) ∧
   w.cell? ⟨g,5,none⟩=some (.slice p.A t.lv.kids.length p.c)∧w.cell? ⟨g,6,none⟩=some (.slice p.B t.ls.length p.d)∧w.cell? ⟨g,7,none⟩=some (.slice p.K t.kids.length p.e):=by
 refine ⟨?_,?_,?_,?_,?_,?_,?_,?_⟩ <;> (rw [cell_of_row _ _ _ _ _ _ h];rfl)
theorem tkids_calls (p:Pl) (t:Tm) (w:World):Calls Try.prog 96 #[tmV p t] w fun e w'=>e=.returned (.func (.func 117) #[] #[.pointer (some ⟨w.heap.size,0,none⟩)])∧w'=w.alloc (tmO p t):=by
 unfold tmV
 go_enter Try.func96,Try.ntmps96
 go_wp2
 go_ret
 exact ⟨rfl,rfl⟩
structure KpG (n₀:Nat) (G:Nat→Prop) (W W':World):Prop where
 size:W.heap.size≤W'.heap.size
 block:∀ k,k<n₀→¬ G k→W'.heap[k]?=W.heap[k]?
theorem kpG_refl (n₀:Nat) (G:Nat→Prop) (W:World):KpG n₀ G W W:=⟨Nat.le_refl _,fun _ _ _=>rfl⟩
theorem kpG_trans {n₀:Nat} {G:Nat→Prop} {A B C:World} (h:KpG n₀ G A B) (k:KpG n₀ G B C):KpG n₀ G A C:=⟨Nat.le_trans h.size k.size,fun i hi hg=>(k.block i hi hg).trans (h.block i hi hg)⟩
theorem kpG_put {n₀:Nat} {G:Nat→Prop} {w:World} (hn:n₀≤w.heap.size) (W:World) (l:Nat) (o o':Obj) (hl:w.heap.size≤l) (_:W.heap[l]?=some o) (_:o.isCells=false) (_:o.isWalk=false):KpG n₀ G W (W.putObj l o'):=
 ⟨by simp,fun k hk _=>World.putObj_heap_other (by omega)⟩
abbrev encK (t:Tm) (q:Nat→Pl) (i:Fin (nK t)):Array Value:=#[.int .i64 (moreZ t i),tmV (q i) (kidF t i)]
theorem take_fin {n k:Nat} (h:k<n):(List.finRange n).take (k+1)=(List.finRange n).take k ++ [⟨k,h⟩]:=by
 rw [List.take_add_one,List.getElem?_eq_getElem (by simpa using h)]
 simp
set_option maxRecDepth 100000 in
set_option maxHeartbeats 4000000 in
theorem kids1_in (n:Nat) (hn:1≤n) (p:Pl) (t:Tm) (q:Nat→Pl) (l z n₀:Nat) (G S:Nat→Prop) (J Jx:List (Fin (nK t))→World→Prop)
  (hY:∀ (pre:List (Fin (nK t))) (x:Fin (nK t)) (W:World),J pre W→pre.length<nK t→YieldAt Fence.wide (n - 1) Try.prog l (encK t q x) W fun e W' =>
   (e=.returned (.bool true)∧J (pre ++ [x]) W'∧KpG n₀ G W W')∨(e=.returned (.bool false)∧Jx (pre ++ [x]) W'))
  (W:World) (hz:W.heap[z]?=some (tmO p t)) (hz0:z<n₀) (hzG:¬ G z) (hS:∀ k,S k→k<n₀∧¬ G k) (hlen:t.kids.length≤9223372036854775807) (hkid:∀ (i:Nat) (x:Tm),t.kids[i]?=some x→KidAt W S p.K i (q i) x) (h0:J [] W) :
  CallsIn Fence.wide n Try.prog 117 #[.func (.yield l) #[] #[],.pointer (some ⟨z,0,none⟩)] W fun e W'=>(∃ v,e=.returned v) ∧
   ((∃ ys,ys=List.finRange (nK t)∧J ys W')∨(∃ pre,pre <+: List.finRange (nK t)∧Jx pre W')):=by
 refine callsIn_of_wp Try.func117 rfl trivial ?_ rfl
 simp only [Try.ntmps117,List.size_toArray,List.length_cons,List.length_nil,Nat.reduceAdd,Nat.reduceSub,Array.replicate_succ,Array.replicate_zero,List.push_toArray,List.append_toArray,List.nil_append,List.cons_append]
 obtain ⟨pA,pc,pB,pd,pK,pe⟩:=p
 obtain ⟨c0,c1,c2,c3,c4,c5,c6,c7⟩:=row8 hz
 dsimp only at c5 c6 c7
 have HZ:=Ak hz
 have HK:=Ak hkid
 have HS:=Ak hS
 have har:=arZ_in t.kind
 obtain ⟨L,hL⟩:∃ L,L=t.kids.length:=⟨_,rfl⟩
 have HL:=Ak hL
 rw [← hL] at c7 hlen
 have HN:=Ak (show nK t=if (L:Int)<arZ t.kind then 0 else (arZ t.kind).toNat by rw [hL];rfl)
 obtain ⟨ar,hra⟩:∃ ar,ar=arZ t.kind:=⟨_,rfl⟩
 have HAC:=Ak (show Calls Try.prog 104 #[.int .i64 t.kind] W fun e w'=>e=.returned (.int .i64 ar)∧w'=W by rw [hra];exact tar_calls _ _)
 have HAR:=Ak hra
 rw [← hra] at har HN
 clear hz hkid hS hL hra
 by_cases hlt:(L:Int)<ar
 ·have hd:decide ((L:Int)<ar)=true:=decide_eq_true hlt
  have HN0:=Ak (show nK t=0 by rw [HN.out,if_pos hlt])
  gi_wp2_with (refine ⟨trivial,?_⟩;gi_at_call 104;refine (callsIn_wide.2 HAC.out).mono ?_;rintro e w' ⟨rfl,hw⟩;rw [hw];clear hw w')
  refine bodyPost_ret (results_none rfl _ _ _) rfl ?_
  refine ⟨⟨_,rfl⟩,.inl ⟨_,rfl,?_⟩⟩
  have:List.finRange (nK t)=[]:=List.eq_nil_of_length_eq_zero (by simp [HN0.out])
  rw [this];exact h0
 ·by_cases hpos:ar≤0
  ·have HN0:=Ak (show nK t=0 by rw [HN.out,if_neg hlt];omega)
   gi_wp2_with (refine ⟨trivial,?_⟩;gi_at_call 104;refine (callsIn_wide.2 HAC.out).mono ?_;rintro e w' ⟨rfl,hw⟩;rw [hw];clear hw w')
   gi_loopw [16] (fun i wr=>i=.int .i64 0∧J [] wr) (fun _ _=>0)
   case atStart=>exact ⟨rfl,h0⟩
   case round =>
    obtain ⟨rfl,hJs⟩:=hrel
    gi_wp2
    go_end0
    refine ⟨⟨_,rfl⟩,.inl ⟨_,rfl,?_⟩⟩
    have:List.finRange (nK t)=[]:=List.eq_nil_of_length_eq_zero (by simp [HN0.out])
    rw [this];exact hJs
  obtain ⟨m,rfl⟩:∃ m:Nat,ar=(m:Int):=⟨ar.toNat,by omega⟩
  have HNM:=Ak (show nK t=m by rw [HN.out,if_neg hlt];omega)
  have hm3:m≤3:=by omega
  have hm0:0<m:=by omega
  have hmL:m≤L:=by omega
  have hd2:decide (L<m)=false:=decide_eq_false (by omega)
  clear hlt hpos har
  gi_wp2_with (refine ⟨trivial,?_⟩;gi_at_call 104;refine (callsIn_wide.2 HAC.out).mono ?_;rintro e w' ⟨rfl,hw⟩;rw [hw];clear hw w')
  gi_loopw [16] (fun i wr=>∃ k:Nat,k≤m∧i=.int .i64 k∧J ((List.finRange (nK t)).take k) wr∧KpG n₀ G W wr) (fun i _=>m - (intOf i).toNat)
  case atStart=>exact ⟨0,Nat.zero_le _,rfl,h0,kpG_refl _ _ _⟩
  case round =>
   clear c0 c1 c2 c3 c4 c5 c6 c7
   obtain ⟨k,hk,rfl,hJs,hkp⟩:=hrel
   have HZR:=Ak ((hkp.block z hz0 hzG).trans HZ.out)
   obtain ⟨c0,c1,c2,c3,c4,c5,c6,c7⟩:=row8 HZR.out
   dsimp only at c5 c6 c7
   rw [← HL.out] at c7
   by_cases hlk:k<m
   ·have hkn:k<nK t:=by rw [HNM.out];exact hlk
    obtain ⟨fn,tmps,assign,body,hy,hR⟩:=hY _ ⟨k,hkn⟩ wr hJs (by simp;omega)
    unfold encK tmV at hy
    dsimp only at hy
    have HTK:=Ak (take_fin hkn)
    obtain ⟨b,o,hKa,hSb,hcells⟩:=(HK.out k _ (kidF_get t ⟨k,hkn⟩)).same (w':=wr) fun j hj _=>hkp.block j (HS.out j hj).1 (HS.out j hj).2
    obtain ⟨x,hx⟩:∃ x,x=kidF t ⟨k,hkn⟩:=⟨_,rfl⟩
    rw [← hx] at hy hcells
    subst hKa
    have e0:=hcells 0 _ rfl
    have e1:=hcells 1 _ rfl
    have e2:=hcells 2 _ rfl
    have e3:=hcells 3 _ rfl
    have e4:=hcells 4 _ rfl
    have e5:=hcells 5 _ rfl
    have e6:=hcells 6 _ rfl
    have e7:=hcells 7 _ rfl
    clear hcells hx
    rw [Nat.add_zero] at e0
    by_cases hkm:(k:Int)=(m:Int) - 1
    ·have hb1:((k:Int) == (m:Int) - 1)=true:=by simp [hkm]
     have HKM:=Ak hkm
     clear hkm
     by_cases h6:t.kind=6
     ·have hb6:(t.kind != 6)=false:=by simp [h6]
      have H6:=Ak h6
      clear h6
      have HM:=Ak (show moreZ t k=0 by unfold moreZ;rw [← HAR.out,if_neg (fun h=>h.2 H6.out)])
      rw [HM.out] at hy
      gi_wp2
      refine hR.mono ?_
      rintro e W3 (⟨rfl,hJ3,hk3⟩ | ⟨rfl,hJx3⟩)
      ·gi_wp2
       go_roundw
       case rel=>exact ⟨k+1,by omega,by go_num,by rw [HTK.out];exact hJ3,kpG_trans hkp hk3⟩
       case measure=>(simp [intOf];try omega)
      ·gi_wp2
       refine bodyPost_ret (results_none rfl _ _ _) rfl ?_
       exact ⟨⟨_,rfl⟩,.inr ⟨_,by rw [← HTK.out];exact List.take_prefix _ _,hJx3⟩⟩
     ·have hb6:(t.kind != 6)=true:=by simp [h6]
      have HM:=Ak (show moreZ t k=1 by unfold moreZ;rw [← HAR.out,if_pos ⟨HKM.out,h6⟩])
      rw [HM.out] at hy
      gi_wp2
      refine hR.mono ?_
      rintro e W3 (⟨rfl,hJ3,hk3⟩ | ⟨rfl,hJx3⟩)
      ·gi_wp2
       go_roundw
       case rel=>exact ⟨k+1,by omega,by go_num,by rw [HTK.out];exact hJ3,kpG_trans hkp hk3⟩
       case measure=>(simp [intOf];try omega)
      ·gi_wp2
       refine bodyPost_ret (results_none rfl _ _ _) rfl ?_
       exact ⟨⟨_,rfl⟩,.inr ⟨_,by rw [← HTK.out];exact List.take_prefix _ _,hJx3⟩⟩
    ·have hb1:((k:Int) == (m:Int) - 1)=false:=by simp [hkm]
     have HKM:=Ak hkm
     clear hkm
     have HM:=Ak (show moreZ t k=0 by unfold moreZ;rw [← HAR.out,if_neg (fun h=>HKM.out h.1)])
     rw [HM.out] at hy
     gi_wp2
     refine hR.mono ?_
     rintro e W3 (⟨rfl,hJ3,hk3⟩ | ⟨rfl,hJx3⟩)
     ·gi_wp2
      go_roundw
      case rel=>exact ⟨k+1,by omega,by go_num,by rw [HTK.out];exact hJ3,kpG_trans hkp hk3⟩
      case measure=>(simp [intOf];try omega)
     ·gi_wp2
      refine bodyPost_ret (results_none rfl _ _ _) rfl ?_
      exact ⟨⟨_,rfl⟩,.inr ⟨_,by rw [← HTK.out];exact List.take_prefix _ _,hJx3⟩⟩
   ·obtain rfl:k=m:=by omega
    have hlk':decide ((k:Int)<k)=false:=by simp
    gi_wp2
    go_end0
    exact ⟨⟨_,rfl⟩,.inl ⟨_,rfl,by rwa [List.take_of_length_le (by simp [HNM.out])] at hJs⟩⟩
theorem kids_stops (n:Nat) (hn:1≤n) (p:Pl) (t:Tm) (q:Nat→Pl) (z n₀:Nat) (G S:Nat→Prop) (w:World) (hz:w.heap[z]?=some (tmO p t)) (hz0:z<n₀) (hn0:n₀≤w.heap.size) (hzG:¬ G z) (hS:∀ k,S k→k<n₀∧¬ G k)
  (hlen:t.kids.length≤9223372036854775807) (hkid:∀ (i:Nat) (x:Tm),t.kids[i]?=some x→KidAt w S p.K i (q i) x) :
  SeqStopsK Fence.wide n Try.prog 117 #[.pointer (some ⟨z,0,none⟩)] (encK t q) (KpG n₀ G) (fun ys=>ys=List.finRange (nK t)) (fun pre=>pre <+: List.finRange (nK t)) (nK t) w:=fun l J Jx W hW _ _ hY h0 =>
 kids1_in n hn p t q l z n₀ G S J Jx hY W (blk_below hz hW) hz0 hzG hS hlen (fun i x hx=>(hkid i x hx).same fun k _ hk=>hW.block k hk) h0
theorem chg_cut {G:Nat→Prop} {w w0 w1 w2:World} (h0:Chg G w w0) (h1:Chg (fun k=>G k∨w.heap.size≤k) w0 w1) (h2:Chg (fun k=>G k∨w.heap.size≤k) w1 w2):Chg G w w2:=by
 have hz0:=h0.size
 have hz1:=h1.size
 have hz2:=h2.size
 refine ⟨h2.os.trans (h1.os.trans h0.os),h2.tape.trans (h1.tape.trans h0.tape),h2.output.trans (h1.output.trans h0.output),by omega,fun k hk hg=>?_⟩
 have hn:¬ (G k∨w.heap.size≤k):=fun h=>h.elim hg (by omega)
 exact (h2.block k (by omega) hn).trans ((h1.block k (by omega) hn).trans (h0.block k hk hg))
theorem chg_grown {S:Nat→Prop} {w X Y:World} {row:Option Nat} (h:Chg S w X) (hg:X.grownBy Y row) (hr:∀ r,row=some r→w.heap.size≤r):Chg S w Y:=
 ⟨hg.os.trans h.os,hg.tape.trans h.tape,hg.output.trans h.output,Nat.le_trans h.size hg.size,fun k hk hn=>(hg.block k (Nat.lt_of_lt_of_le hk h.size) (fun e=>by have:=hr k e.symm;omega)).trans (h.block k hk hn)⟩
theorem KeepsFrom.of_chg {S:Nat→Prop} {B:Nat} {W W':World} (h:Chg S W W') (hS:∀ k,S k→k<B):Go.KeepsFrom B W W':=
 ⟨h.size,fun k o hB ho _=>(h.block k (Array.getElem?_eq_some_iff.1 ho).1 (fun hs=>by have:=hS k hs;omega)).trans ho⟩
theorem chg_put (W:World) (D:Nat) (o:Obj):Chg (fun k=>k=D) W (W.putObj D o):=⟨rfl,rfl,rfl,by simp,fun k _ hn=>World.putObj_heap_other (fun e=>hn (by omega))⟩
def FoldPost {σ:Type} (Rep:σ→World→Prop) (G:Nat→Prop) (w:World) (r:Bool × σ) (e:Ending) (w':World):Prop:=e=.returned (.bool r.1)∧Rep r.2 w'∧Chg G w w'
theorem foldP_inv {σ:Type} {F:Tm→Int→Int→σ→Bool × σ} {Inv:σ→Prop} {P:Tm→Int→Prop} (hF:∀ (t:Tm) (d b:Int) (s:σ),P t d→Inv s→(F t d b s).1=true→Inv (F t d b s).2∧∀ i:Fin (nK t),P (kidF t i) (d+1)) (N:Nat) :
  ∀ (t:Tm),SizeOf.sizeOf t<N→∀ (d b:Int) (s:σ),P t d→Inv s→(foldP F t d b s).1=true→Inv (foldP F t d b s).2:=by
 induction N with
 | zero=>intro t h;omega
 | succ N ih =>
  intro t hN d b s hP hI h
  by_cases h1:(F t d b s).1=true
  ·rw [foldP_go h1] at h ⊢
   have h2:=hF t d b s hP hI h1
   have key:∀ (xs:List (Fin (nK t))) (s:σ),Inv s→(runL (fun (i:Fin (nK t)) s=>foldP F (kidF t i) (d+1) (b+moreZ t i) s) xs s).1=true→Inv (runL (fun (i:Fin (nK t)) s=>foldP F (kidF t i) (d+1) (b+moreZ t i) s) xs s).2:=by
    intro xs
    induction xs with
    | nil=>intro s hs _;exact hs
    | cons x r ihr =>
     intro s hs h
     rw [runL] at h ⊢
     by_cases hx:(foldP F (kidF t x) (d+1) (b+moreZ t x) s).1=true
     ·rw [if_pos hx] at h ⊢
      exact ihr _ (ih (kidF t x) (by have:=kidF_lt t x;omega) _ _ _ (h2.2 x) hs hx) h
     ·rw [if_neg hx] at h;cases h
   exact key _ _ h2.1 h
  ·rw [foldP_stop (by simpa using h1)] at h;exact absurd h h1
end Go.Proofs.Ytdboloabpjmgaaa

namespace Go.Proofs.Ytdboloabpjmgaaa
open Go.RowKit Go.Shelf Go.Proofs.YtdboloabpjmgaaaW.PrintWords Go.RegionInvYtdboloabpjmgaaa
attribute [local go_sem] Oper.semAt_some

abbrev vfMe (g1 g2:Nat):Value:=.func (.func 95) #[] #[.pointer (some ⟨g1,0,none⟩),.pointer (some ⟨g2,0,none⟩)]
abbrev foWMe (w:World) (p:Pl) (t:Tm) (d b:Int) (g1 g2:Nat):World:=
 ((((w.alloc (tmO p t)).alloc (.cells #[.int .i64 d] 3 (0,0))).alloc (.cells #[.int .i64 b] 3 (0,0))).alloc (.cells #[vfMe g1 g2] 66 (0,0))).alloc (.cells #[.bool false] 4 (0,0))
set_option maxRecDepth 100000 in
set_option maxHeartbeats 16000000 in
theorem fold_Me {σ:Type} (F:Tm→Int→Int→σ→Bool × σ) (Rep:σ→World→Prop) (Inv:σ→Prop) (P:Tm→Int→Prop) (G:Nat→Prop) (B g0:Nat) (g1 g2:Nat)
  (hG:∀ k,G k→B≤k∧k<g0) (hBg:B≤g0) (hRep:∀ (s:σ) (W W':World),Rep s W→(∀ k,G k→W'.heap[k]?=W.heap[k]?)→Rep s W')
  (hvis:∀ (t:Tm) (p:Pl) (d b:Int) (s:σ) (w:World),P t d→0≤b→b≤d→Inv s→g0≤w.heap.size→TmIn w B p t→Rep s w→Calls Try.prog 95 #[tmV p t,.int .i64 d,.int .i64 b,.pointer (some ⟨g1,0,none⟩),.pointer (some ⟨g2,0,none⟩)] w (FoldPost Rep G w (F t d b s)))
  (hF:∀ (t:Tm) (d b:Int) (s:σ),P t d→Inv s→(F t d b s).1=true→Inv (F t d b s).2∧∀ i:Fin (nK t),P (kidF t i) (d+1)) (hP:∀ t d,P t d→0≤d∧d≤100000)
  (N:Nat):∀ (t:Tm),SizeOf.sizeOf t<N→∀ (p:Pl) (d b:Int) (s:σ) (w:World),P t d→0≤b→b≤d→Inv s→g0≤w.heap.size→TmIn w B p t→Rep s w →
  Calls Try.prog 58 #[tmV p t,.int .i64 d,.int .i64 b,vfMe g1 g2] w (FoldPost Rep G w (foldP F t d b s)):=by
 induction N with
 | zero=>intro t h;omega
 | succ N ih =>
  intro t hN p d b s w hPd hb0 hbd hI hg hin hR
  have IH:=Ak ih
  have HG:=Ak hG
  have HRP:=Ak hRep
  have HVS:=Ak hvis
  have HF:=Ak hF
  have HP:=Ak hPd
  have HI:=Ak hI
  have HIN:=Ak hin
  have HR:=Ak hR
  have HNN:=Ak hN
  have hd:=hP t d hPd
  have HPP:=Ak hP
  have hz0:(foWMe w p t d b g1 g2).heap.size=w.heap.size+5:=by simp
  have hb0w:Below w.heap.size w (foWMe w p t d b g1 g2):=below_alloc (below_alloc (below_alloc (below_alloc (below_alloc (Below.refl _ _) _) _) _) _) _
  have HZ0:=Ak hz0
  have HB0:=Ak hb0w
  have HX0:=Ak (show (foWMe w p t d b g1 g2).heap[w.heap.size]?=some (tmO p t) from blk_alloc (blk_alloc (blk_alloc (blk_alloc (blk_new _ _) _) _) _) _)
  have HX1:=Ak (show (foWMe w p t d b g1 g2).heap[w.heap.size+1]?=some (.cells #[.int .i64 d] 3 (0,0)) by have:=blk_new (w.alloc (tmO p t)) (.cells #[.int .i64 d] 3 (0,0));simp only [World.size_alloc] at this;exact blk_alloc (blk_alloc (blk_alloc this _) _) _)
  have HX2:=Ak (show (foWMe w p t d b g1 g2).heap[w.heap.size+1+1]?=some (.cells #[.int .i64 b] 3 (0,0)) by have:=blk_new ((w.alloc (tmO p t)).alloc (.cells #[.int .i64 d] 3 (0,0))) (.cells #[.int .i64 b] 3 (0,0));simp only [World.size_alloc] at this;exact blk_alloc (blk_alloc this _) _)
  have HX3:=Ak (show (foWMe w p t d b g1 g2).heap[w.heap.size+1+1+1]?=some (.cells #[vfMe g1 g2] 66 (0,0)) by have:=blk_new (((w.alloc (tmO p t)).alloc (.cells #[.int .i64 d] 3 (0,0))).alloc (.cells #[.int .i64 b] 3 (0,0))) (.cells #[vfMe g1 g2] 66 (0,0));simp only [World.size_alloc] at this;exact blk_alloc this _)
  have HX4:=Ak (show (foWMe w p t d b g1 g2).heap[w.heap.size+1+1+1+1]?=some (.cells #[.bool false] 4 (0,0)) by have:=blk_new ((((w.alloc (tmO p t)).alloc (.cells #[.int .i64 d] 3 (0,0))).alloc (.cells #[.int .i64 b] 3 (0,0))).alloc (.cells #[vfMe g1 g2] 66 (0,0))) (.cells #[.bool false] 4 (0,0));simp only [World.size_alloc] at this;exact this)
  have hR0:Rep s (foWMe w p t d b g1 g2):=hRep _ _ _ hR fun k hk=>hb0w.block k (Nat.lt_of_lt_of_le (hG k hk).2 hg)
  have HR0:=Ak hR0
  have HIN0:=Ak (hin.stay (hb0w.mono (Nat.le_trans hBg hg)))
  have HGG:=Ak (show ∀ k,G k→k<w.heap.size from fun k hk=>Nat.lt_of_lt_of_le (hG k hk).2 hg)
  clear ih hG hRep hvis hF hPd hI hin hR hN hP hz0 hb0w hR0
  unfold tmV vfMe
  refine (callsIn_wide (n:=5)).1 ?_
  refine callsIn_of_wp_marks Try.func58 rfl trivial ?_ rfl
  simp only [Try.ntmps58,List.size_toArray,List.length_cons,List.length_nil,Nat.reduceAdd,Nat.reduceSub,Array.replicate_succ,Array.replicate_zero,List.push_toArray,List.append_toArray,List.nil_append,List.cons_append]
  obtain ⟨e1,s1,hes⟩:∃ x y,F t d b s=(x,y):=⟨_,_,rfl⟩
  have HV:=Ak hes
  cases e1 with
  | false =>
   have HE:=Ak (show foldP F t d b s=(false,s1) by rw [foldP_stop (by rw [hes]),hes])
   clear hes
   gi_wp2
   refine ⟨trivial,?_⟩
   gi_at_call 95
   refine (callsIn_wide.2 (HVS.out t p d b s _ HP.out hb0 hbd HI.out (Nat.le_trans hg HB0.out.size) HIN0.out HR0.out)).mono ?_
   rintro e w1 ⟨rfl,hR1,hC1⟩
   rw [HV.out] at hR1 ⊢
   have HR1:=Ak hR1
   have HC1:=Ak hC1
   have hx4:=(hC1.block _ (by rw [HZ0.out];omega) (fun h=>by have:=HGG.out _ h;omega)).trans HX4.out
   have HX41:=Ak hx4
   have c4:w1.cell? ⟨w.heap.size+1+1+1+1,0,none⟩=some (.bool false):=by (rw [cell_of_row _ _ _ _ _ _ hx4];rfl)
   have f4:=blk_frozen hx4 0
   clear hR1 hC1 hx4
   gi_wp2
   have hc5:(w1.setCell ⟨w.heap.size+1+1+1+1,0,none⟩ (.bool false)).cell? ⟨w.heap.size+1+1+1+1,0,none⟩=some (.bool false):=World.cell?_setCell_same' _ _ _ (by rw [c4];rfl)
   refine ⟨.bool false,?_,?_⟩
   ·simp [results,Try.f58,go_sem,hc5]
   ·rw [HE.out]
    refine ⟨rfl,HRP.out _ _ _ HR1.out (fun k hk=>(chg_set w1 (w.heap.size+1+1+1+1) 0 (.bool false)).block k (by have:=HC1.out.size;have:=HZ0.out;have:=HGG.out k hk;omega) (fun e=>by have:=HGG.out k hk;omega)),?_⟩
    exact chg_cut (Chg.of_below HB0.out) (HC1.out.mono fun k h=>.inl h) ((chg_set w1 _ 0 _).mono fun k h=>.inr (by have h:k=w.heap.size+1+1+1+1:=h;omega))
  | true =>
   have h2:=HF.out t d b s HP.out HI.out (by rw [hes])
   rw [hes] at h2
   have HI1:=Ak h2.1
   have HPK:=Ak h2.2
   have HE:=Ak (show foldP F t d b s=runL (fun (i:Fin (nK t)) s=>foldP F (kidF t i) (d+1) (b+moreZ t i) s) (List.finRange (nK t)) s1 by rw [foldP_go (by rw [hes]),hes])
   clear hes h2
   gi_wp2
   refine ⟨trivial,?_⟩
   gi_at_call 95
   refine (callsIn_wide.2 (HVS.out t p d b s _ HP.out hb0 hbd HI.out (Nat.le_trans hg HB0.out.size) HIN0.out HR0.out)).mono ?_
   rintro e w1 ⟨rfl,hR1,hC1⟩
   rw [HV.out] at hR1 ⊢
   have HR1:=Ak hR1
   have HC1:=Ak hC1
   have hgn:∀ j,w.heap.size≤j→¬ G j:=fun j hj h=>by have:=HGG.out j h;omega
   have hX0:=(hC1.block w.heap.size (by rw [HZ0.out];omega) (hgn _ (by omega))).trans HX0.out
   have hX1:=(hC1.block _ (by rw [HZ0.out];omega) (hgn _ (by omega))).trans HX1.out
   have hX2:=(hC1.block _ (by rw [HZ0.out];omega) (hgn _ (by omega))).trans HX2.out
   have hX3:=(hC1.block _ (by rw [HZ0.out];omega) (hgn _ (by omega))).trans HX3.out
   have hX4:=(hC1.block _ (by rw [HZ0.out];omega) (hgn _ (by omega))).trans HX4.out
   have hz1:=hC1.size
   rw [HZ0.out] at hz1
   have HX01:=Ak hX0
   have HX11:=Ak hX1
   have HX21:=Ak hX2
   have HX31:=Ak hX3
   have HX41:=Ak hX4
   have HGN:=Ak hgn
   have HIN1:=Ak (HIN0.out.same (w':=w1) fun k hk hz=>hC1.block k hz (fun h=>by have:=(HG.out k h).1;omega))
   obtain ⟨c0,c1,c2,c3,c4,c5,c6,c7⟩:=row8 hX0
   clear hR1 hC1 hX0 hX1 hX2 hX3 hX4 hgn
   gi_wp2
   refine ⟨trivial,?_⟩
   gi_at_call 96
   refine (callsIn_wide.2 (tkids_calls p t _)).mono ?_
   rintro e w2 ⟨rfl,hw2⟩
   have HZX2:=Ak (show w2.heap[w1.heap.size]?=some (tmO p t) by rw [hw2];exact blk_new _ _)
   have HB2:=Ak (show Below w1.heap.size w1 w2 by rw [hw2];exact below_alloc (Below.refl _ _) _)
   clear hw2 c0 c1 c2 c3 c4 c5 c6 c7
   gi_wp2
   obtain ⟨q,hq⟩:=(HIN1.out.later HB2.out).kid
   have HQ:=Ak hq
   have hlen:=HIN1.out.len
   have hz2:=HB2.out.size
   have hzz:=blk_lt HZX2.out
   have hgl:∀ k,G k→k<w2.heap.size:=fun k hk=>by have:=HGG.out k hk;omega
   have HGL:=Ak hgl
   have HINV:=Ak (foldP_inv HF.out)
   clear hq
   refine wpIn_rangeFunc_ownH (F:=Fence.wide) rfl (by decide) (gf:=117) (lb:=#[.pointer (some ⟨w1.heap.size,0,none⟩)]) rfl trivial (enters_of Try.func117 (by kernel_rfl) rfl)
    (kids_stops (5 - 1) (by decide) p t q w1.heap.size w2.heap.size G (fun k=>k<B) w2 HZX2.out hzz (Nat.le_refl _) (HGN.out _ (by omega)) (fun k hk=>⟨by omega,fun h=>by have:=(HG.out k h).1;omega⟩) (by omega) (fun i x hx=>(HQ.out i x hx).1))
    kpG_trans (kpG_put (Nat.le_refl _)) (Below.refl _ _) (fun _=>rfl)
    (fun pre W=>((runL (fun (i:Fin (nK t)) s=>foldP F (kidF t i) (d+1) (b+moreZ t i) s) pre s1).1=true∧Inv (runL (fun (i:Fin (nK t)) s=>foldP F (kidF t i) (d+1) (b+moreZ t i) s) pre s1).2)∧Rep (runL (fun (i:Fin (nK t)) s=>foldP F (kidF t i) (d+1) (b+moreZ t i) s) pre s1).2 W∧Chg G w2 W)
    (fun c pre W=>(c=.ret∧(runL (fun (i:Fin (nK t)) s=>foldP F (kidF t i) (d+1) (b+moreZ t i) s) pre s1).1=false)∧(Rep (runL (fun (i:Fin (nK t)) s=>foldP F (kidF t i) (d+1) (b+moreZ t i) s) pre s1).2 W∧W.heap[w.heap.size+1+1+1+1]?=some (.cells #[.bool false] 4 (0,0)))∧Chg (fun k=>G k∨k=w.heap.size+1+1+1+1) w2 W)
    (fun pre X Y row hs hg hr=>⟨hs.1,HRP.out _ X Y hs.2.1 (fun k hk=>hg.block k (Nat.lt_of_lt_of_le (HGL.out k hk) hs.2.2.size) (fun e=>by have:=(hr k e.symm).1;have:=HGL.out k hk;omega)),chg_grown hs.2.2 hg (fun r e=>(hr r e).1)⟩)
    (fun c pre X Y row hs hg hr=>⟨hs.1,⟨HRP.out _ X Y hs.2.1.1 (fun k hk=>hg.block k (Nat.lt_of_lt_of_le (HGL.out k hk) hs.2.2.size) (fun e=>by have:=(hr k e.symm).1;have:=HGL.out k hk;omega)),(hg.block _ (blk_lt hs.2.1.2) (fun e=>by have:=(hr _ e.symm).1;omega)).trans hs.2.1.2⟩,chg_grown hs.2.2 hg (fun r e=>(hr r e).1)⟩)
    ⟨⟨rfl,HI1.out⟩,HRP.out _ w1 w2 HR1.out (fun k hk=>HB2.out.block k (by have:=HGG.out k hk;omega)),Chg.refl _ _⟩
    (fun x a' W=>∃ Bx,w2.heap.size≤Bx∧W.heap[Bx]?=some (tmO (q x) (kidF t x))∧a' = { tmps:=#[tmV p t,.int .i64 d,.int .i64 b,vfMe g1 g2,.pointer (some ⟨w.heap.size,0,none⟩),.pointer (some ⟨w.heap.size+1,0,none⟩),.pointer (some ⟨w.heap.size+1+1,0,none⟩),.pointer (some ⟨w.heap.size+1+1+1,0,none⟩),.pointer (some ⟨w.heap.size+1+1+1+1,0,none⟩),.int .i64 (moreZ t x),.pointer (some ⟨Bx,0,none⟩),vfMe g1 g2,tmV p t,.int .i64 d,.int .i64 b,.bool true,.bool false,tmV p t,.func (.func 117) #[] #[.pointer (some ⟨w1.heap.size,0,none⟩)],.int .i64 (moreZ t x),tmV (q x) (kidF t x),undef,undef,undef,undef,undef,undef,undef,undef,undef],defers:=[] })
    (fun x a' _ X Y row hs hg hr=>by obtain ⟨Bx,h1,h2,h3⟩:=hs;exact ⟨Bx,h1,(hg.block _ (blk_lt h2) (fun e=>by obtain ⟨o,ho,hc⟩:=(hr _ e.symm).2;rw [h2] at ho;cases ho;cases hc)).trans h2,h3⟩)
    ?assign ?body ?done ?stop
   case assign =>
    rintro l pre x W K ⟨hA,hRW,hCW⟩ hK
    dsimp only [encK,tmV]
    have hAA:=Ak hA
    have hb1:Below W.heap.size W (W.alloc (tmO (q x) (kidF t x))):=below_alloc (Below.refl _ _) _
    have HKK:=Ak (hK { tmps:=#[tmV p t,.int .i64 d,.int .i64 b,vfMe g1 g2,.pointer (some ⟨w.heap.size,0,none⟩),.pointer (some ⟨w.heap.size+1,0,none⟩),.pointer (some ⟨w.heap.size+1+1,0,none⟩),.pointer (some ⟨w.heap.size+1+1+1,0,none⟩),.pointer (some ⟨w.heap.size+1+1+1+1,0,none⟩),.int .i64 (moreZ t x),.pointer (some ⟨W.heap.size,0,none⟩),vfMe g1 g2,tmV p t,.int .i64 d,.int .i64 b,.bool true,.bool false,tmV p t,.func (.func 117) #[] #[.pointer (some ⟨w1.heap.size,0,none⟩)],.int .i64 (moreZ t x),tmV (q x) (kidF t x),undef,undef,undef,undef,undef,undef,undef,undef,undef],defers:=[] } _ (KeepsFrom.of_chg (Chg.of_below (S:=fun _=>False) hb1) (fun k h=>h.elim)) ⟨hb1.size,fun k hk _=>hb1.block k (by have:=hCW.size;omega)⟩ ⟨hA,HRP.out _ _ _ hRW (fun k hk=>hb1.block k (by have:=HGL.out k hk;have:=hCW.size;omega)),chg_trans hCW (Chg.of_below hb1)⟩ ⟨W.heap.size,hCW.size,blk_new _ _,rfl⟩)
    clear hK hA hAA hb1
    gi_wp2
    exact HKK.out
   case body =>
    rintro l pre x a' W hl ⟨r,hr⟩ ⟨⟨hA,hIv⟩,hRW,hCW⟩ ⟨Bx,hBx,bX,rfl⟩ hlt
    obtain ⟨sp,hsp⟩:∃ sp,runL (fun (i:Fin (nK t)) s=>foldP F (kidF t i) (d+1) (b+moreZ t i) s) pre s1=(true,sp):=⟨_,Prod.ext hA rfl⟩
    rw [hsp] at hIv hRW
    have HSP:=Ak hsp
    obtain ⟨ev,s2,hev⟩:∃ ev s2,foldP F (kidF t x) (d+1) (b+moreZ t x) sp=(ev,s2):=⟨_,_,rfl⟩
    have HEV:=Ak hev
    have HSN:=Ak (show runL (fun (i:Fin (nK t)) s=>foldP F (kidF t i) (d+1) (b+moreZ t i) s) (pre ++ [x]) s1=(ev,s2) by rw [runL_snoc,hsp];exact hev)
    have HIV2:=Ak (show ev=true→Inv s2 from fun h=>by have:=HINV.out _ (kidF t x) (Nat.lt_succ_self _) (d+1) (b+moreZ t x) sp (HPK.out x) hIv (by rw [hev];exact h);rwa [hev] at this)
    have HIV:=Ak hIv
    have HRW:=Ak hRW
    have HCW:=Ak hCW
    have HKD:=Ak ((HQ.out x _ (kidF_get t x)).2.same (w':=W) fun k hk hz=>hCW.block k hz (fun h=>by have:=(HG.out k h).1;omega))
    have hszW:=hCW.size
    have st:∀ j,w.heap.size≤j→j<w1.heap.size→W.heap[j]?=w1.heap[j]?:=fun j h1 h2=>(hCW.block j (by omega) (HGN.out j h1)).trans (HB2.out.block j h2)
    have c1:W.cell? ⟨w.heap.size+1,0,none⟩=some (.int .i64 d):=by rw [cell_of_row _ _ _ _ _ _ ((st _ (by omega) (by omega)).trans HX11.out)];rfl
    have c2:W.cell? ⟨w.heap.size+1+1,0,none⟩=some (.int .i64 b):=by rw [cell_of_row _ _ _ _ _ _ ((st _ (by omega) (by omega)).trans HX21.out)];rfl
    have c3:W.cell? ⟨w.heap.size+1+1+1,0,none⟩=some (vfMe g1 g2):=by rw [cell_of_row _ _ _ _ _ _ ((st _ (by omega) (by omega)).trans HX31.out)];rfl
    have X4:=Ak ((st _ (by omega) (by omega)).trans HX41.out)
    obtain ⟨b0,b1,b2,b3,b4,b5,b6,b7⟩:=row8 bX
    obtain ⟨hd0,hd1⟩:=hd
    have hmz:=moreZ_in t x
    obtain ⟨hm0,hm1⟩:=hmz
    have HMZ:=Ak (show b+moreZ t x≤d+1 by omega)
    clear hA hIv hRW hCW hsp hev st bX hr hlt
    cases ev with
    | true =>
     gi_wp2
     refine ⟨trivial,?_⟩
     gi_at_call 58
     refine (CallsIn.inRound l (callsIn_wide.2 (IH.out (kidF t x) (by have:=kidF_lt t x;have:=HNN.out;omega) (q x) (d+1) (b+moreZ t x) sp W (HPK.out x) (by omega) HMZ.out HIV.out (by omega) HKD.out HRW.out))).mono ?_
     rintro e w3 ⟨rfl,hR3,hC3⟩
     rw [HEV.out] at hR3 ⊢
     have HR3:=Ak hR3
     have HC3:=Ak hC3
     clear hR3 hC3
     gi_wp2
     refine ⟨KeepsFrom.of_chg HC3.out HGL.out,⟨HC3.out.size,fun k hk hg=>HC3.out.block k (by omega) hg⟩,⟨?_,?_⟩,?_,chg_trans HCW.out HC3.out⟩
     ·rw [HSN.out]
     ·rw [HSN.out];exact HIV2.out (by simp)
     ·rw [HSN.out];exact HR3.out
    | false =>
     gi_wp2
     refine ⟨trivial,?_⟩
     gi_at_call 58
     refine (CallsIn.inRound l (callsIn_wide.2 (IH.out (kidF t x) (by have:=kidF_lt t x;have:=HNN.out;omega) (q x) (d+1) (b+moreZ t x) sp W (HPK.out x) (by omega) HMZ.out HIV.out (by omega) HKD.out HRW.out))).mono ?_
     rintro e w3 ⟨rfl,hR3,hC3⟩
     rw [HEV.out] at hR3 ⊢
     have HR3:=Ak hR3
     have HC3:=Ak hC3
     have hx4:=(hC3.block _ (by omega) (HGN.out _ (by omega))).trans X4.out
     have X43:=Ak hx4
     have c4:w3.cell? ⟨w.heap.size+1+1+1+1,0,none⟩=some (.bool false):=by (rw [cell_of_row _ _ _ _ _ _ hx4];rfl)
     have f4:=blk_frozen hx4 0
     clear hR3 hC3 hx4
     gi_wp2
     have hch:=chg_set w3 (w.heap.size+1+1+1+1) 0 (.bool false)
     have hsz3:=HC3.out.size
     refine ⟨KeepsFrom.of_chg (S:=fun k=>G k∨k=w.heap.size+1+1+1+1) (chg_trans (HC3.out.mono fun k h=>.inl h) (hch.mono fun k h=>.inr h)) (fun k h=>h.elim (fun h=>HGL.out k h) (fun h=>by omega)),⟨rfl,?_⟩,⟨?_,?_⟩,?_⟩
     ·rw [HSN.out]
     ·rw [HSN.out];exact HRP.out _ _ _ HR3.out fun k hk=>hch.block k (by have:=HGL.out k hk;omega) (fun e=>HGN.out k (by have e:k=_:=e;omega) hk)
     ·exact blk_put X43.out 0 _ rfl
     ·exact chg_trans (HCW.out.mono fun k h=>.inl h) (chg_trans (HC3.out.mono fun k h=>.inl h) (hch.mono fun k h=>.inr h))
   case done =>
    rintro D ys W hD rfl ⟨⟨hA,hIv⟩,hRW,hCW⟩ hK
    obtain ⟨sp,hsp⟩:∃ sp,runL (fun (i:Fin (nK t)) s=>foldP F (kidF t i) (d+1) (b+moreZ t i) s) (List.finRange (nK t)) s1=(true,sp):=⟨_,Prod.ext hA rfl⟩
    rw [hsp] at hRW
    have HRES:=Ak hsp
    have hszW:=hCW.size
    have hx4:=(hCW.block _ (by omega) (HGN.out _ (by omega))).trans ((HB2.out.block _ (by omega)).trans HX41.out)
    have X4:=Ak hx4
    have HRW:=Ak hRW
    have HCW:=Ak hCW
    have HKD:=Ak hK
    have c4:W.cell? ⟨w.heap.size+1+1+1+1,0,none⟩=some (.bool false):=by (rw [cell_of_row _ _ _ _ _ _ hx4];rfl)
    have f4:=blk_frozen hx4 0
    clear hA hIv hsp hRW hCW hx4 hK
    gi_wp2
    have hch:=chg_set W (w.heap.size+1+1+1+1) 0 (.bool true)
    obtain ⟨WW,hWW⟩:∃ WW,WW=W.setCell ⟨w.heap.size+1+1+1+1,0,none⟩ (.bool true):=⟨_,rfl⟩
    have hx5:WW.heap[w.heap.size+1+1+1+1]?=some (.cells #[.bool true] 4 (0,0)):=by rw [hWW];exact blk_put X4.out 0 _ rfl
    rw [← hWW] at hch ⊢
    clear hWW
    have hszV:=hch.size
    have hKW:WW.heap[D]?=some (.deferred (some [])):=(hch.block D (blk_lt HKD.out) (by omega)).trans HKD.out
    have hRWW:Rep sp WW:=HRP.out _ _ _ HRW.out fun k hk=>hch.block k (by have:=HGL.out k hk;omega) (fun e=>HGN.out k (by have e:k=_:=e;omega) hk)
    have hCWW:Chg (fun k=>G k∨w.heap.size≤k) w2 WW:=chg_trans (HCW.out.mono fun k h=>.inl h) (hch.mono fun k h=>.inr (by have h:k=_:=h;omega))
    have hgD:∀ k,G k→k≠D:=fun k hk e=>by have:=HGL.out k hk;omega
    have hp:=chg_put WW D (.deferred none)
    have hc5:(WW.putObj D (.deferred none)).cell? ⟨w.heap.size+1+1+1+1,0,none⟩=some (.bool true):=by
     rw [cell_of_row _ _ _ _ _ _ ((hp.block _ (blk_lt hx5) (by omega)).trans hx5)];rfl
    refine ⟨by simp,.inl ⟨_,_,rfl,run_takeDeferred hKW,?_⟩⟩
    refine ⟨.bool true,?_,?_⟩
    ·simp [results,Try.f58,go_sem,hc5]
    ·rw [HE.out,HRES.out]
     refine ⟨rfl,HRP.out _ _ _ hRWW (fun k hk=>hp.block k (by have:=HGL.out k hk;omega) (hgD k hk)),?_⟩
     refine chg_cut (Chg.of_below HB0.out) (HC1.out.mono fun k h=>.inl h) (chg_trans (chg_trans (Chg.of_below HB2.out) hCWW) (hp.mono fun k h=>.inr (by have h:k=D:=h;omega)))
   case stop =>
    rintro D c pre WW hD hSp ⟨⟨rfl,hA⟩,⟨hRWW,hx5⟩,hCW⟩ hKW
    obtain ⟨sp,hsp⟩:∃ sp,runL (fun (i:Fin (nK t)) s=>foldP F (kidF t i) (d+1) (b+moreZ t i) s) pre s1=(false,sp):=⟨_,Prod.ext hA rfl⟩
    have HRES:=Ak (show runL (fun (i:Fin (nK t)) s=>foldP F (kidF t i) (d+1) (b+moreZ t i) s) (List.finRange (nK t)) s1=(false,sp) by rw [runL_false _ hSp _ hA,hsp])
    rw [hsp] at hRWW
    have hszV:=hCW.size
    have hCWW:Chg (fun k=>G k∨w.heap.size≤k) w2 WW:=hCW.mono fun k h=>h.elim .inl fun h=>.inr (by omega)
    clear hA hsp hSp hCW
    gi_wp2
    have hgD:∀ k,G k→k≠D:=fun k hk e=>by have:=HGL.out k hk;omega
    have hp:=chg_put WW D (.deferred none)
    have hc5:(WW.putObj D (.deferred none)).cell? ⟨w.heap.size+1+1+1+1,0,none⟩=some (.bool false):=by
     rw [cell_of_row _ _ _ _ _ _ ((hp.block _ (blk_lt hx5) (by omega)).trans hx5)];rfl
    refine ⟨by simp,.inl ⟨_,_,rfl,run_takeDeferred hKW,?_⟩⟩
    refine ⟨.bool false,?_,?_⟩
    ·simp [results,Try.f58,go_sem,hc5]
    ·rw [HE.out,HRES.out]
     refine ⟨rfl,HRP.out _ _ _ hRWW (fun k hk=>hp.block k (by have:=HGL.out k hk;omega) (hgD k hk)),?_⟩
     refine chg_cut (Chg.of_below HB0.out) (HC1.out.mono fun k h=>.inl h) (chg_trans (chg_trans (Chg.of_below HB2.out) hCWW) (hp.mono fun k h=>.inr (by have h:k=D:=h;omega)))
end Go.Proofs.Ytdboloabpjmgaaa

namespace Go.Proofs.Ytdboloabpjmgaaa
open Go.RowKit Go.Proofs.YtdboloabpjmgaaaW.PrintWords Go.RegionInvYtdboloabpjmgaaa

def owP (l:Lv):Lv:=if soundB l=true then cpP l else l
theorem owP_sound {l:Lv} (h:soundB l=true):owP l=cpP l:=if_pos h
theorem owP_not {l:Lv} (h:soundB l=false):owP l=l:=if_neg (by simp [h])
def LvGot (w:World) (S:Nat→Prop) (l:Lv) (e:Ending) (w':World):Prop:=∃ A c,e=.returned (lvV A c l)∧LvS w' (fun b=>S b∨w.heap.size≤b) A c l∧Below w.heap.size w w'
theorem two_boxes {w:World} (o o':Obj):Below w.heap.size w ((w.alloc o).alloc o'):=below_alloc (below_alloc (Below.refl _ _) _) _

theorem row3 {w:World} {g:Nat} {a b c:Value} {t:TypeId} (h:w.heap[g]?=some (.cells #[a,b,c] t (0,0))) :
  w.cell? ⟨g,0,none⟩=some a∧w.cell? ⟨g,1,none⟩=some b∧w.cell? ⟨g,2,none⟩=some c∧w.frozen? ⟨g,0,none⟩=false∧w.frozen? ⟨g,1,none⟩=false∧w.frozen? ⟨g,2,none⟩=false:=by
 refine ⟨?_,?_,?_,blk_frozen h 0,blk_frozen h 1,blk_frozen h 2⟩ <;> (rw [cell_of_row _ _ _ _ _ _ h];rfl)
theorem box0 (w:World) (o o':Obj):((w.alloc o).alloc o').heap[w.heap.size]?=some o:=blk_alloc (blk_new w o) o'
theorem box1 (w:World) (o o':Obj):((w.alloc o).alloc o').heap[w.heap.size+1]?=some o':=by
 have:=blk_new (w.alloc o) o'
 simpa using this

set_option maxHeartbeats 2000000 in
theorem own_calls (S:Nat→Prop) (A:Option Addr) (c:Nat) (l:Lv) (w:World) (hin:LvS w S A c l):Calls Try.prog 118 #[lvV A c l] w (LvGot w S (owP l)):=by
 have HIN:=Ak hin
 have hl9:l.kids.length≤9223372036854775807:=by have:=hin.len;omega
 clear hin
 unfold lvV
 go_enter Try.func118,Try.ntmps118
 cases hs:soundB l with
 | true =>
  have HE:=Ak (owP_sound hs)
  have HG:=Ak (good_of_sound hs)
  have HS:=Ak hs
  clear hs
  go_wp2_with (first
   | (go_at_call 109;go_must (refine (sound_calls A c l _ (LvS.all (HIN.out.later (two_boxes _ _)))).mono ?_;rintro e w1 ⟨rfl,hb⟩;rw [HS.out];have HB:=Ak (below_then (two_boxes _ _) (two_boxes _ _).size hb);have HX1:=Ak (blk_below (box1 w _ _) hb);obtain ⟨p0,p1,p2,-,-,-⟩:=row3 (blk_below (box0 w _ _) hb);clear hb))
   | (go_at_call 130;go_must (refine (copied_calls _ l (Nat.lt_succ_self _) HG.out A c _ (LvS.all (HIN.out.later HB.out))).mono ?_;rintro e w2 ⟨A2,c2,rfl,hl2,hb⟩;have HL2:=Ak hl2;have HB2:=Ak (below_then HB.out HB.out.size hb);have HX2:=Ak (blk_below HX1.out hb);have hsz:=HB.out.size;have hsz2:=blk_lt HX1.out;obtain ⟨q0,q1,q2,z0,z1,z2⟩:=row3 HX2.out;clear hb hl2;simp only [lvV])))
  refine bodyPost_ret (results_c rfl _ _ (w.heap.size+1) 25 #[.int .i64 (cpP l).kind,.int .i64 (cpP l).num,.slice A2 (cpP l).kids.length c2] (0,0) _ rfl (set3 HX2.out) Try.underlying25 rfl (by kernel_rfl)) rfl ?_
  have hch:=chg_set3 w2 (w.heap.size+1) (.int .i64 (cpP l).kind) (.int .i64 (cpP l).num) (.slice A2 (cpP l).kids.length c2)
  exact ⟨A2,c2,by rw [HE.out];rfl,by rw [HE.out];exact (HL2.out.same fun b hb hz=>hch.block b hz (by omega)).mono fun b hb _=>.inr (by omega),Chg.trans_below HB2.out hch (fun _ e=>by omega) HB2.out.size⟩
 | false =>
  have HE:=Ak (owP_not hs)
  have HS:=Ak hs
  clear hs
  go_wp2_with (first
   | (go_at_call 109;go_must (refine (sound_calls A c l _ (LvS.all (HIN.out.later (two_boxes _ _)))).mono ?_;rintro e w1 ⟨rfl,hb⟩;rw [HS.out];have HB:=Ak (below_then (two_boxes _ _) (two_boxes _ _).size hb);have HX1:=Ak (blk_below (box1 w _ _) hb);obtain ⟨p0,p1,p2,-,-,-⟩:=row3 (blk_below (box0 w _ _) hb);obtain ⟨q0,q1,q2,z0,z1,z2⟩:=row3 HX1.out;clear hb)))
  refine bodyPost_ret (results_c rfl _ _ (w.heap.size+1) 25 #[.int .i64 l.kind,.int .i64 l.num,.slice A l.kids.length c] (0,0) _ rfl (set3 HX1.out) Try.underlying25 rfl (by kernel_rfl)) rfl ?_
  have hch:=chg_set3 w1 (w.heap.size+1) (.int .i64 l.kind) (.int .i64 l.num) (.slice A l.kids.length c)
  have hfin:=Chg.trans_below HB.out hch (fun _ e=>by omega) HB.out.size
  exact ⟨A,c,by rw [HE.out];rfl,by rw [HE.out];exact (HIN.out.later hfin).mono fun b hb _=>.inl hb,hfin⟩
theorem LvS.leaf (w:World) (S:Nat→Prop) (k n:Int):LvS w S none 0 (.mk k n []):=.mk (fun _=>none) (fun _=>0) (by simp) (by omega) (fun i x h=>by simp at h) (fun i x h=>by simp at h)
theorem got_two {w w2:World} {S:Nat→Prop} {o o':Obj} {A:Option Addr} {c:Nat} {l:Lv} (h:LvS w2 (fun b=>(S b∧b<w.heap.size)∨((w.alloc o).alloc o').heap.size≤b) A c l):LvS w2 (fun b=>(S b∧b<w.heap.size)∨w.heap.size+2≤b) A c l:=
 h.mono fun b hb _=>hb.elim .inl fun h=>.inr (by simp at h;omega)
theorem got_all {w w2:World} {S:Nat→Prop} {A:Option Addr} {c:Nat} {l:Lv} (h:LvS w2 (fun b=>(S b∧b<w.heap.size)∨w.heap.size+2≤b) A c l):LvS w2 (fun b=>S b∨w.heap.size≤b) A c l:=
 h.mono fun b hb _=>hb.elim (fun h=>.inl h.1) fun h=>.inr (by omega)
theorem got_chg {w w2 w3:World} {S:Nat→Prop} {A:Option Addr} {c:Nat} {l:Lv} (h:LvS w2 (fun b=>(S b∧b<w.heap.size)∨w.heap.size+2≤b) A c l) (hc:Chg (fun k=>k=w.heap.size+1) w2 w3):LvS w3 (fun b=>(S b∧b<w.heap.size)∨w.heap.size+2≤b) A c l:=
 h.same fun b hb hz=>hc.block b hz (by omega)
theorem LvS.renum {w:World} {S:Nat→Prop} {A:Option Addr} {c:Nat} {l:Lv} (h:LvS w S A c l) (k n:Int):LvS w S A c (.mk k n l.kids):=by
 cases h with
 | mk fA fc hc hm hcell hk=>exact .mk fA fc hc hm hcell hk
end Go.Proofs.Ytdboloabpjmgaaa

namespace Go.Proofs.Ytdboloabpjmgaaa
open Go.RowKit Go.Proofs.YtdboloabpjmgaaaW.PrintWords Go.RegionInvYtdboloabpjmgaaa

def meF (_:Tm) (d _:Int) (s:Int × Int):Bool × (Int × Int):=(decide (s.1+1≤20000∧d≤2000),(s.1+1,max s.2 d))
def RepM (g1 g2:Nat) (s:Int × Int) (w:World):Prop:=NumAt w g1 s.1∧NumAt w g2 s.2
def InvM (s:Int × Int):Prop:=0≤s.1∧s.1≤20000∧0≤s.2∧s.2≤2000
def GM (g1 g2:Nat) (k:Nat):Prop:=k=g1∨k=g2
def measP (t:Tm):Int × Int:=if (foldP meF t 1 0 (0,0)).1=true then (foldP meF t 1 0 (0,0)).2 else (0,0)
theorem me_fin {w:World} {g1 g2:Nat} {n m d b mm:Int} {t:Tm} {bb:Bool} (h1:NumAt w g1 n) (h2:NumAt w g2 m) (hne:g1≠g2) (o:Obj) (hb:(decide (n+1≤20000∧d≤2000))=bb) (hm:max m d=mm) :
  FoldPost (RepM g1 g2) (GM g1 g2) w (meF t d b (n,m)) (.returned (.bool bb)) (((w.setCell ⟨g1,0,none⟩ (.int .i64 (n+1))).setCell ⟨g2,0,none⟩ (.int .i64 mm)).alloc o):=by
 subst hb;subst hm
 have c1:=chg_set w g1 0 (.int .i64 (n+1))
 have k2:NumAt (w.setCell ⟨g1,0,none⟩ (.int .i64 (n+1))) g2 m:=(c1.block g2 (blk_lt h2) (fun e=>hne e.symm)).trans h2
 have c2:=chg_set (w.setCell ⟨g1,0,none⟩ (.int .i64 (n+1))) g2 0 (.int .i64 (max m d))
 refine ⟨rfl,⟨NumAt.alloc (((c2.block g1 (blk_lt (h1.set (n+1))) hne).trans (h1.set (n+1)):NumAt _ g1 (n+1))) o,(k2.set _).alloc o⟩,?_⟩
 exact chg_trans (chg_trans (c1.mono fun k h=>.inl h) (c2.mono fun k h=>.inr h)) (chg_alloc _ _ _)
set_option maxHeartbeats 2000000 in
theorem me1_calls (t:Tm) (p:Pl) (d b:Int) (s:Int × Int) (w:World) (g1 g2:Nat) (hne:g1≠g2) (_hd0:0≤d) (_hd1:d≤2001) (hI:InvM s) (hR:RepM g1 g2 s w) :
  Calls Try.prog 95 #[tmV p t,.int .i64 d,.int .i64 b,.pointer (some ⟨g1,0,none⟩),.pointer (some ⟨g2,0,none⟩)] w (FoldPost (RepM g1 g2) (GM g1 g2) w (meF t d b s)):=by
 obtain ⟨n,m⟩:=s
 obtain ⟨h1,h2⟩:=hR
 obtain ⟨i1,i2,i3,i4⟩:=hI
 simp only at h1 h2 i1 i2 i3 i4
 have c1:=h1.cell
 have c2:=h2.cell
 have f1:=blk_frozen h1 0
 have f2:=blk_frozen h2 0
 have hz1:=blk_lt h1
 have hz2:=blk_lt h2
 have H1:=Ak h1
 have H2:=Ak h2
 have hne':g2≠g1:=fun e=>hne e.symm
 clear h1 h2
 unfold tmV
 go_enter Try.func95,Try.ntmps95
 go_wp2
 all_goals go_ret
 all_goals exact me_fin H1.out H2.out hne _ (by by_cases hx:d≤2000 <;> simp [hx] <;> omega) (by omega)
theorem meF_ok {t:Tm} {d b:Int} {s:Int × Int} (hd:0≤d∧d≤2001) (hI:InvM s) (h:(meF t d b s).1=true):InvM (meF t d b s).2∧∀ _:Fin (nK t),0≤d+1∧d+1≤2001:=by
 have h:=of_decide_eq_true h
 obtain ⟨i1,i2,i3,i4⟩:=hI
 unfold InvM meF
 simp only
 exact ⟨by omega,fun _=>by omega⟩
theorem foldMe_calls (t:Tm) (p:Pl) (B g1 g2:Nat) (w:World) (hne:g1≠g2) (h1:B≤g1) (h2:B≤g2) (hin:TmIn w B p t) (hn1:NumAt w g1 0) (hn2:NumAt w g2 0) :
  Calls Try.prog 58 #[tmV p t,.int .i64 1,.int .i64 0,vfMe g1 g2] w (FoldPost (RepM g1 g2) (GM g1 g2) w (foldP meF t 1 0 (0,0))):=
 fold_Me meF (RepM g1 g2) InvM (fun _ d=>0≤d∧d≤2001) (GM g1 g2) B (max g1 g2+1) g1 g2 (fun k h=>by rcases h with rfl | rfl <;> omega) (by omega)
  (fun s W W' h hs=>⟨(hs g1 (.inl rfl)).trans h.1,(hs g2 (.inr rfl)).trans h.2⟩)
  (fun t p d b s w hP _ _ hI _ _ hR=>me1_calls t p d b s w g1 g2 hne hP.1 hP.2 hI hR)
  (fun t d b s hP hI h=>meF_ok hP hI h) (fun t d h=>by omega) _ t (Nat.lt_succ_self _) p 1 0 (0,0) w (by omega) (by omega) (by omega) ⟨by decide,by decide,by decide,by decide⟩ (by have:=blk_lt hn1;have:=blk_lt hn2;omega) hin ⟨hn1,hn2⟩
set_option maxHeartbeats 4000000 in
theorem measure_calls (t:Tm) (p:Pl) (w:World) (hin:TmIn w w.heap.size p t) :
  Calls Try.prog 57 #[tmV p t] w fun e w'=>e=.returned (.tuple #[.int .i64 (measP t).1,.int .i64 (measP t).2])∧Below w.heap.size w w':=by
 have HIN:=Ak hin
 obtain ⟨W,hW⟩:∃ W,W=((w.alloc (tmO p t)).alloc (.cells #[.int .i64 0] 3 (0,0))).alloc (.cells #[.int .i64 0] 3 (0,0)):=⟨_,rfl⟩
 have hb:Below w.heap.size w W:=by rw [hW];exact below_alloc (below_alloc (below_alloc (Below.refl _ _) _) _) _
 have HX:=Ak (show W.heap[w.heap.size]?=some (tmO p t) by rw [hW];exact blk_alloc (box0 w _ _) _)
 have HN1:=Ak (show NumAt W (w.heap.size+1) 0 by rw [hW];exact blk_alloc (box1 w _ _) _)
 have HN2:=Ak (show NumAt W (w.heap.size+1+1) 0 by rw [hW];have:=blk_new ((w.alloc (tmO p t)).alloc (.cells #[.int .i64 0] 3 (0,0))) (.cells #[.int .i64 0] 3 (0,0));simpa [NumAt] using this)
 have HB:=Ak hb
 clear hin hb
 unfold tmV
 go_enter Try.func57,Try.ntmps57
 go_upto_region 2 with (fail)
 rw [← hW]
 clear hW
 obtain ⟨c0,c1,c2,c3,c4,c5,c6,c7⟩:=row8 HX.out
 obtain ⟨ev,s2,hev⟩:∃ ev s2,foldP meF t 1 0 (0,0)=(ev,s2):=⟨_,_,rfl⟩
 have HEV:=Ak hev
 cases ev with
 | true =>
  have HM:=Ak (show measP t=s2 by unfold measP;rw [hev];rfl)
  clear hev
  go_upto_region 4 with (first
   | (go_at_call 58;go_must (refine (foldMe_calls t p w.heap.size (w.heap.size+1) (w.heap.size+1+1) W (by omega) (by omega) (by omega) (HIN.out.stay HB.out) HN1.out HN2.out).mono ?_;rintro e w2 ⟨rfl,hR,hC⟩;rw [HEV.out] at hR ⊢;have HR:=Ak hR;have HB2:=Ak (Chg.trans_below HB.out hC (fun k h=>by rcases h with rfl | rfl <;> omega) HB.out.size);clear hR hC)))
  have r1:=HR.out.1.cell
  have r2:=HR.out.2.cell
  go_region_law (fail)
  all_goals go_wp2
  all_goals go_ret2
  all_goals (rw [HM.out];refine ⟨rfl,?_⟩;repeat' first | exact HB2.out | apply below_drew)
 | false =>
  have HM:=Ak (show measP t=(0,0) by unfold measP;rw [hev];rfl)
  clear hev
  go_wp2_with (first
   | (go_at_call 58;go_must (refine (foldMe_calls t p w.heap.size (w.heap.size+1) (w.heap.size+1+1) W (by omega) (by omega) (by omega) (HIN.out.stay HB.out) HN1.out HN2.out).mono ?_;rintro e w2 ⟨rfl,hR,hC⟩;rw [HEV.out] at hR ⊢;have HB2:=Ak (Chg.trans_below HB.out hC (fun k h=>by rcases h with rfl | rfl <;> omega) HB.out.size);clear hR hC)))
  go_ret2
  rw [HM.out]
  exact ⟨rfl,HB2.out⟩
end Go.Proofs.Ytdboloabpjmgaaa

namespace Go.Proofs.Ytdboloabpjmgaaa
open Go.RowKit Go.Proofs.YtdboloabpjmgaaaW.PrintWords Go.RegionInvYtdboloabpjmgaaa

def greatB (t:Tm):Bool:=(measP t).1 == 0
set_option maxHeartbeats 2000000 in
theorem great_calls (t:Tm) (p:Pl) (w:World) (hin:TmIn w w.heap.size p t):Calls Try.prog 55 #[tmV p t] w fun e w'=>e=.returned (.bool (greatB t))∧Below w.heap.size w w':=by
 have HIN:=Ak hin
 have HX:=Ak (show (w.alloc (tmO p t)).heap[w.heap.size]?=some (tmO p t) from blk_new _ _)
 have HB:=Ak (show Below w.heap.size w (w.alloc (tmO p t)) from below_alloc (Below.refl _ _) _)
 clear hin
 unfold tmV
 go_enter Try.func55,Try.ntmps55
 go_wp2_with (first
  | (go_at_call 57;go_must (refine (measure_calls t p _ (TmS.all (HIN.out.stay HB.out))).mono ?_;rintro e w2 ⟨rfl,hb⟩;have HB2:=Ak (below_then HB.out HB.out.size hb);clear hb)))
 go_ret
 exact ⟨rfl,HB2.out⟩
end Go.Proofs.Ytdboloabpjmgaaa

namespace Go.RegionEYtdboloabpjmgaaa
open Go.RowKit Go.RegionInvYtdboloabpjmgaaa Go.Proofs.YtdboloabpjmgaaaW.PrintWords

section
variable {P:Program} {ops:Array Oper} {Q:Exit→Act→World→Prop} {E:Nat→Nat→Prop} {C:Nat→List Nat} {F:Nat→(Nat→Value)→Value→World→(Nat→Prop)→Prop} {a0:Act} {w0:World}

def slots (a:Act):Nat→Value:=fun t=>a.tmps.getD t undef
def Leans (ops:Array Oper) (o:Oper) (G:(Nat→Value)→Value→World→(Nat→Prop)→Prop):Prop:=
 ∀ τ τ':Nat→Value,(∀ k ok d,ops[k]?=some ok→ok.dst=some d→predB o k=true→τ' d=τ d)→G τ=G τ'
theorem leans_not {o:Oper} {G:Value→World→(Nat→Prop)→Prop}:Leans ops o (fun _=>G):=fun _ _ _=>rfl
def Fix (w0:World) (E:Nat→Nat→Prop) (k:Nat):Prop:=k<w0.heap.size∧∀ i,¬ E i k
def StableE (w0:World) (E:Nat→Nat→Prop) (G:Value→World→(Nat→Prop)→Prop):Prop:=
 ∀ v w w' O,G v w O→w.heap.size≤w'.heap.size→(∀ k,k<w.heap.size→(Fix w0 E k∨O k)→w'.heap[k]?=w.heap[k]?)→G v w' O

structure KnownE (ops:Array Oper) (E:Nat→Nat→Prop) (C:Nat→List Nat) (F:Nat→(Nat→Value)→Value→World→(Nat→Prop)→Prop) (a0:Act) (w0:World) (j:Nat) (o:Oper) (a:Act) (w:World) (O:Nat→Nat→Prop):Prop where
 fact:∀ i oi d,ops[i]?=some oi→oi.dst=some d→predB o i=true→freeB C ops.size i j=true→F i (slots a) (a.tmps.getD d undef) w (O i)
 owns:∀ i,predB o i=true→freeB C ops.size i j=true→∀ k,O i k→k<w.heap.size∧¬ Fix w0 E k
 apart:∀ i i',predB o i=true→freeB C ops.size i j=true→predB o i'=true→freeB C ops.size i' j=true→i≠i'→∀ k,O i k→¬ O i' k
 init:∀ t,initialB ops j t=true→a.tmps.getD t undef=a0.tmps.getD t undef
 size:a.tmps.size=a0.tmps.size
 world:Chg (fun k=>∃ i,E i k) w0 w
 est:∀ i oi,ops[i]?=some oi→(i=j∨predB oi j=true)→∀ k,E i k→w.heap[k]?=w0.heap[k]?
 away:∀ i i' oi,ops[i]?=some oi→(i=j∨predB oi j=true)→predB o i'=true→freeB C ops.size i' j=true→∀ k,E i k→¬ O i' k
 shape:∀ i oi d,ops[i]?=some oi→oi.dst=some d→predB o i=true→∃ τ w' O',F i τ (a.tmps.getD d undef) w' O'
 nofact:∀ i oi,ops[i]?=some oi→oi.dst=none→predB o i=true→freeB C ops.size i j=true→∃ v,F i (slots a) v w (O i)

def OwesE (P:Program) (ops:Array Oper) (Q:Exit→Act→World→Prop) (R:Nat→Prop) (G:Value→World→(Nat→Prop)→Prop) (o:Oper) (a:Act) (w:World):Prop:=
 if Region.wanted o (yielded ops a.tmps) then o.wp P a w (fun a' w'=>∃ v O',a'=a.put o.dst v∧G v w' O'∧Chg R w w'∧(∀ k,O' k→R k∨(w.heap.size≤k∧k<w'.heap.size))) Q
 else G undef w (fun _=>False)
def Taken (Cj:List Nat) (O:Nat→Nat→Prop) (Ej:Nat→Prop) (k:Nat):Prop:=(∃ i∈Cj,O i k)∨Ej k

def ObsE (P:Program) (ops:Array Oper) (Q:Exit→Act→World→Prop) (E:Nat→Nat→Prop) (C:Nat→List Nat) (F:Nat→(Nat→Value)→Value→World→(Nat→Prop)→Prop) (a0:Act) (w0:World):List Oper→Nat→Prop
 | [],_=>True
 | o :: r,j=>(((∀ τ,StableE w0 E (F j τ))∧Leans ops o (F j))∧∀ a w O,KnownE ops E C F a0 w0 j o a w O→OwesE P ops Q (Taken (C j) O (E j)) (F j (slots a)) o a w)∧ObsE P ops Q E C F a0 w0 r (j+1)

theorem ObsE.at_:∀ (l:List Oper) (k:Nat),ObsE P ops Q E C F a0 w0 l k→∀ j o,l[j]?=some o→((∀ τ,StableE w0 E (F (k+j) τ))∧Leans ops o (F (k+j)))∧∀ a w O,KnownE ops E C F a0 w0 (k+j) o a w O→OwesE P ops Q (Taken (C (k+j)) O (E (k+j))) (F (k+j) (slots a)) o a w:=by
 intro l
 induction l with
 | nil=>intro k _ j o h;simp at h
 | cons x r ih =>
  intro k h j o hj
  cases j with
  | zero =>
   obtain rfl:x=o:=by simpa using hj
   exact h.1
  | succ j =>
   have:=ih (k+1) h.2 j o (by simpa using hj)
   rwa [show k+1+j=k+(j+1) by omega] at this

structure InvE (ops:Array Oper) (E:Nat→Nat→Prop) (C:Nat→List Nat) (F:Nat→(Nat→Value)→Value→World→(Nat→Prop)→Prop) (a0:Act) (w0:World) (L:Array Bool) (O:Nat→Nat→Prop) (a:Act) (w:World):Prop where
 defers:a.defers=a0.defers
 size:a.tmps.size=a0.tmps.size
 fact:∀ i o d,ops[i]?=some o→o.dst=some d→live ops C L i→F i (slots a) (a.tmps.getD d undef) w (O i)
 nofact:∀ i o,ops[i]?=some o→o.dst=none→live ops C L i→∃ v,F i (slots a) v w (O i)
 owns:∀ i,live ops C L i→∀ k,O i k→k<w.heap.size∧¬ Fix w0 E k∧∀ i',L.getD i' false=false→¬ E i' k
 apart:∀ i j,live ops C L i→live ops C L j→i≠j→∀ k,O i k→¬ O j k
 same:∀ t,(∀ i o,ops[i]?=some o→L.getD i false=true→o.dst≠some t)→a.tmps.getD t undef=a0.tmps.getD t undef
 closed:∀ i o,ops[i]?=some o→L.getD i false=true→∀ e∈o.after,Region.binds .any e=true→L.getD e.on false=true
 world:Chg (fun k=>∃ i,E i k) w0 w
 est:∀ i,L.getD i false=false→∀ k,E i k→w.heap[k]?=w0.heap[k]?
 len:L.size=ops.size
 shape:∀ i o d,ops[i]?=some o→o.dst=some d→L.getD i false=true→∃ τ w' O',F i τ (a.tmps.getD d undef) w' O'

theorem inv_stepE (hE:∀ i j k,E i k→E j k→i=j) (hEr:∀ i k,E i k→k<w0.heap.size) (hok:okB ops a0.tmps.size=true) (hcons:consB ops C=true) (hobs:ObsE P ops Q E C F a0 w0 ops.toList 0)
  {L:Array Bool} {O:Nat→Nat→Prop} {a:Act} {w:World} {j:Nat} {o:Oper} (hI:InvE ops E C F a0 w0 L O a w) (ho:ops[j]?=some o) (hjf:L.getD j false=false) (hpre:∀ e∈o.after,Region.binds .any e=true→L.getD e.on false=true)
  {K:Act→World→Prop} (hK:∀ (O':Nat→Nat→Prop) (a':Act) (w':World),InvE ops E C F a0 w0 (L.setIfInBounds j true) O' a' w'→K a' w') :
  if Region.wanted o (yielded ops a.tmps) then o.wp P a w K Q else K (a.put o.dst undef) w:=by
 have hjn:j<ops.size:=(Array.getElem?_eq_some_iff.1 ho).1
 have hjL:j<L.size:=by rw [hI.len];exact hjn
 have hset:∀ i,(L.setIfInBounds j true).getD i false=true↔i=j∨L.getD i false=true:=by
  intro i
  by_cases e:i=j
  ·subst e;simp [Array.getD,hjL]
  ·have:(L.setIfInBounds j true).getD i false=L.getD i false:=by
    simp only [Array.getD_eq_getD_getElem?,Array.getElem?_setIfInBounds_ne (fun h=>e h.symm)]
   rw [this];simp [e]
 have hdone:∀ i,predB o i=true→L.getD i false=true:=by
  intro i hp
  unfold predB at hp
  rw [List.any_eq_true] at hp
  obtain ⟨e,he,hb⟩:=hp
  replace he:=Array.mem_toList_iff.1 he
  simp only [Bool.and_eq_true,beq_iff_eq] at hb
  have:=hpre e he hb.2
  rwa [hb.1] at this
 have hlive:∀ i,predB o i=true→freeB C ops.size i j=true→live ops C L i:=by
  intro i hp hfr
  unfold predB at hp
  rw [List.any_eq_true] at hp
  obtain ⟨e,he,hb⟩:=hp
  replace he:=Array.mem_toList_iff.1 he
  simp only [Bool.and_eq_true,beq_iff_eq] at hb
  have:=hpre e he hb.2
  rw [hb.1] at this
  refine ⟨this,fun k hk hL=>freeB.spec hfr hk fun e'=>?_⟩
  subst e'
  rw [hjf] at hL;cases hL
 have hnot:∀ i oi,ops[i]?=some oi→(i=j∨predB oi j=true)→L.getD i false=false:=by
  intro i oi hi hor
  cases hL:L.getD i false with
  | false=>rfl
  | true =>
   rcases hor with e | hp
   ·subst e;rw [hjf] at hL;cases hL
   ·unfold predB at hp
    rw [List.any_eq_true] at hp
    obtain ⟨e,he,hb⟩:=hp
    replace he:=Array.mem_toList_iff.1 he
    simp only [Bool.and_eq_true,beq_iff_eq] at hb
    have:=hI.closed i oi hi hL e he hb.2
    rw [hb.1,hjf] at this
    cases this
 have hk:KnownE ops E C F a0 w0 j o a w O:=by
  refine ⟨fun i oi d hi hd hp hfr=>hI.fact i oi d hi hd (hlive i hp hfr),fun i hp hfr k hO=>⟨(hI.owns i (hlive i hp hfr) k hO).1,(hI.owns i (hlive i hp hfr) k hO).2.1⟩,fun i i' hp hfr hp' hfr' hne=>hI.apart i i' (hlive i hp hfr) (hlive i' hp' hfr') hne,fun t ht=>?_,hI.size,hI.world,fun i oi hi hor k hEk=>hI.est i (hnot i oi hi hor) k hEk,fun i i' oi hi hor hp hfr k hEk hO=>(hI.owns i' (hlive i' hp hfr) k hO).2.2 i (hnot i oi hi hor) hEk,fun i oi d hi hd hp=>hI.shape i oi d hi hd (hdone i hp),fun i oi hi hd hp hfr=>hI.nofact i oi hi hd (hlive i hp hfr)⟩
  refine hI.same t fun i oi hi hL hd=>?_
  unfold initialB at ht
  have hin:=(Array.getElem?_eq_some_iff.1 hi).1
  have h5:=List.all_eq_true.1 ht i (List.mem_range.2 hin)
  rw [hi] at h5
  simp only [Bool.or_eq_true,beq_iff_eq] at h5
  rcases h5 with h5 | h5 | h5
  ·subst h5;rw [hjf] at hL;cases hL
  ·simp [hd] at h5
  ·rw [List.any_eq_true] at h5
   obtain ⟨e,he,hb⟩:=h5
   replace he:=Array.mem_toList_iff.1 he
   simp only [Bool.and_eq_true,beq_iff_eq] at hb
   have:=hI.closed i oi hi hL e he hb.2
   rw [hb.1,hjf] at this
   cases this
 have hob:=(ObsE.at_ ops.toList 0 hobs j o (by simpa using ho)).2 a w O (by simpa using hk)
 rw [Nat.zero_add] at hob
 have hsta:∀ i oi,ops[i]?=some oi→(∀ τ,StableE w0 E (F i τ))∧Leans ops oi (F i):=fun i oi hi=>by
  have:=(ObsE.at_ ops.toList 0 hobs i oi (by simpa using hi)).1
  rwa [Nat.zero_add] at this
 have hEj:∀ k,E j k→∀ i,live ops C L i→¬ O i k:=fun k hEk i hl hO=>(hI.owns i hl k hO).2.2 j hjf hEk
 have hR:∀ k,Taken (C j) O (E j) k→k<w.heap.size∧¬ Fix w0 E k∧∀ i',L.getD i' false=false→i'≠j→¬ E i' k:=by
  rintro k (⟨i,hi,hO⟩ | hEk)
  ·have:=consB.spec hcons ho hi
   have h:=hI.owns i (hlive i this.2 this.1) k hO
   exact ⟨h.1,h.2.1,fun i' hi' _=>h.2.2 i' hi'⟩
  ·exact ⟨Nat.lt_of_lt_of_le (hEr j k hEk) hI.world.size,fun hf=>hf.2 j hEk,fun i' _ hne hE'=>hne (hE _ _ _ hE' hEk)⟩
 have hstep:∀ v w' O',F j (slots a) v w' O'→Chg (Taken (C j) O (E j)) w w'→(∀ k,O' k→Taken (C j) O (E j) k∨(w.heap.size≤k∧k<w'.heap.size)) →
   K (a.put o.dst v) w':=by
  intro v w' O' hF hC hO'
  have hlv:∀ i,live ops C (L.setIfInBounds j true) i→i=j∨(live ops C L i∧i∉C j∧i≠j):=by
   intro i hi
   by_cases e:i=j
   ·exact .inl e
   ·refine .inr ⟨⟨((hset i).1 hi.1).resolve_left e,fun k hk hL=>hi.2 k hk ((hset k).2 (.inr hL))⟩,hi.2 j hjn ((hset j).2 (.inl rfl)),e⟩
  have hapart:∀ i,live ops C L i→i∉C j→∀ k,O i k→¬ Taken (C j) O (E j) k:=by
   rintro i hi hn k hO (⟨i',hi',hO2⟩ | hEk)
   ·have:=consB.spec hcons ho hi'
    exact hI.apart i i' hi (hlive i' this.2 this.1) (fun e=>hn (e ▸ hi')) k hO hO2
   ·exact hEj k hEk i hi hO
  have hlean:∀ i oi,ops[i]?=some oi→(i=j∨L.getD i false=true)→F i (slots a)=F i (slots (a.put o.dst v)):=by
   intro i oi hi hor
   refine (hsta i oi hi).2 _ _ fun k ok d hk hd hp=>?_
   refine getD_put_ne fun e=>?_
   have hkj:k=j:=okB.once hok hk hd ho e
   unfold predB at hp
   rw [List.any_eq_true] at hp
   obtain ⟨ed,hed,hb⟩:=hp
   replace hed:=Array.mem_toList_iff.1 hed
   simp only [Bool.and_eq_true,beq_iff_eq] at hb
   rcases hor with rfl | hL
   ·have:=okB.edges hok hi ed hed hb.2
    omega
   ·have:=hI.closed i oi hi hL ed hed hb.2
    rw [hb.1,hkj,hjf] at this
    cases this
  have hstab:∀ i oi v',ops[i]?=some oi→live ops C L i→i∉C j→F i (slots a) v' w (O i)→F i (slots (a.put o.dst v)) v' w' (O i):=by
   intro i oi v' hi hl hn hf
   rw [← hlean i oi hi (.inr hl.1)]
   refine (hsta i oi hi).1 _ _ _ _ _ hf hC.size fun k hk hor=>hC.block k hk ?_
   rcases hor with h | h
   ·intro hs;exact (hR k hs).2.1 h
   ·exact hapart i hl hn k h
  have hnl:∀ i,(L.setIfInBounds j true).getD i false=false→L.getD i false=false∧i≠j:=by
   intro i hi
   constructor
   ·cases hL:L.getD i false with
    | false=>rfl
    | true=>rw [(hset i).2 (.inr hL)] at hi;cases hi
   ·intro e;rw [(hset i).2 (.inl e)] at hi;cases hi
  refine hK (fun i=>if i=j then O' else O i) _ _ ⟨by rw [defers_put];exact hI.defers,by rw [size_put];exact hI.size,?_,?_,?_,?_,?_,?_,?_,?_,by simpa using hI.len,?_⟩
  ·intro i oi d hi hd hL
   rcases hlv i hL with e | ⟨hl,hn,hne⟩
   ·subst e
    rw [ho] at hi
    obtain rfl:=Option.some.inj hi
    have hF':F i (slots (a.put o.dst v)) v w' O':=by rw [← hlean i o ho (.inl rfl)];exact hF
    rw [hd] at hF' ⊢
    rw [getD_put_same (by rw [hI.size];exact okB.size hok ho hd),if_pos rfl]
    exact hF'
   ·rw [if_neg hne,getD_put_ne]
    ·exact hstab i oi _ hi hl hn (hI.fact i oi d hi hd hl)
    ·intro e
     exact hne (okB.once hok hi hd ho e)
  ·intro i oi hi hd hL
   rcases hlv i hL with e | ⟨hl,hn,hne⟩
   ·subst e
    rw [if_pos rfl,← hlean i o ho (.inl rfl)]
    exact ⟨v,hF⟩
   ·rw [if_neg hne]
    obtain ⟨v',hf⟩:=hI.nofact i oi hi hd hl
    exact ⟨v',hstab i oi _ hi hl hn hf⟩
  ·intro i hL k hO
   by_cases e:i=j
   ·rw [if_pos e] at hO
    have hz:=hC.size
    rcases hO' k hO with h | h
    ·have:=hR k h
     exact ⟨by omega,this.2.1,fun i' hi'=>this.2.2 i' (hnl i' hi').1 (hnl i' hi').2⟩
    ·refine ⟨h.2,fun hf=>?_,fun i' hi' hE'=>?_⟩
     ·have:=hf.1;have:=hI.world.size;omega
     ·have:=hEr i' k hE';have:=hI.world.size;omega
   ·rw [if_neg e] at hO
    have:=hI.owns i ((hlv i hL).resolve_left e).1 k hO
    have hz:=hC.size
    exact ⟨by omega,this.2.1,fun i' hi'=>this.2.2 i' (hnl i' hi').1⟩
  ·intro i i2 hi hi2 hne k hO hO2
   by_cases e:i=j
   ·have e2:i2≠j:=fun h=>hne (e.trans h.symm)
    rw [if_pos e] at hO
    rw [if_neg e2] at hO2
    have hl:=(hlv i2 hi2).resolve_left e2
    rcases hO' k hO with h | h
    ·exact hapart i2 hl.1 hl.2.1 k hO2 h
    ·have:=(hI.owns i2 hl.1 k hO2).1;omega
   ·rw [if_neg e] at hO
    have hl:=(hlv i hi).resolve_left e
    by_cases e2:i2=j
    ·rw [if_pos e2] at hO2
     rcases hO' k hO2 with h | h
     ·exact hapart i hl.1 hl.2.1 k hO h
     ·have:=(hI.owns i hl.1 k hO).1;omega
    ·rw [if_neg e2] at hO2
     exact hI.apart i i2 hl.1 ((hlv i2 hi2).resolve_left e2).1 hne k hO hO2
  ·intro t ht
   rw [getD_put_ne (ht j o ho ((hset j).2 (.inl rfl)))]
   exact hI.same t fun i oi hi hL=>ht i oi hi ((hset i).2 (.inr hL))
  ·intro i oi hi hL e he hb
   refine (hset e.on).2 ?_
   rcases (hset i).1 hL with e' | hL3
   ·subst e'
    rw [ho] at hi
    obtain rfl:=Option.some.inj hi
    exact .inr (hpre e he hb)
   ·exact .inr (hI.closed i oi hi hL3 e he hb)
  ·have hW:=hI.world
   refine ⟨hC.os.trans hW.os,hC.tape.trans hW.tape,hC.output.trans hW.output,Nat.le_trans hW.size hC.size,fun k hk hn=>?_⟩
   rw [hC.block k (Nat.lt_of_lt_of_le hk hW.size) (fun hs=>(hR k hs).2.1 ⟨hk,fun i hE'=>hn ⟨i,hE'⟩⟩),hW.block k hk hn]
  ·intro i hi k hEk
   have hn:=hnl i hi
   rw [hC.block k (Nat.lt_of_lt_of_le (hEr i k hEk) hI.world.size) (fun hs=>(hR k hs).2.2 i hn.1 hn.2 hEk),hI.est i hn.1 k hEk]
  ·intro i oi d hi hd hL
   rcases (hset i).1 hL with e | hL3
   ·subst e
    rw [ho] at hi
    obtain rfl:=Option.some.inj hi
    rw [hd,getD_put_same (by rw [hI.size];exact okB.size hok ho hd)]
    exact ⟨_,_,_,hF⟩
   ·by_cases e:i=j
    ·subst e;rw [hjf] at hL3;cases hL3
    ·rw [getD_put_ne (fun h=>e (okB.once hok hi hd ho h))]
     exact hI.shape i oi d hi hd hL3
 unfold OwesE at hob
 split
 ·rename_i hw
  rw [if_pos hw] at hob
  refine Oper.wp_mono ?_ hob
  rintro a' w' ⟨v,O',rfl,hF,hR,hO'⟩
  exact hstep v w' O' hF hR hO'
 ·rename_i hw
  rw [if_neg hw] at hob
  exact hstep undef w _ hob (Chg.refl _ _) (fun _ h=>h.elim)

theorem any_of_invE (hE:∀ i j k,E i k→E j k→i=j) (hEr:∀ i k,E i k→k<w0.heap.size) (hok:okB ops a0.tmps.size=true) (hcons:consB ops C=true) (hobs:ObsE P ops Q E C F a0 w0 ops.toList 0)
  (hend:∀ (L:Array Bool) (O:Nat→Nat→Prop) (a:Act) (w:World),(∀ i,i<ops.size→L.getD i false=true)→InvE ops E C F a0 w0 L O a w→Q .normal a w) :
  ∀ (fuel:Nat) (L:Array Bool) (O:Nat→Nat→Prop) (a:Act) (w:World),InvE ops E C F a0 w0 L O a w→(L.toList.filter (· == false)).length≤fuel→wpAny P .any ops Q fuel L a w:=by
 have hall:∀ (L:Array Bool) (O:Nat→Nat→Prop) (a:Act) (w:World),InvE ops E C F a0 w0 L O a w→Region.ready .any ops L=[]→∀ i,i<ops.size→L.getD i false=true:=by
  intro L O a w hI hr i
  induction i using Nat.strongRecOn with
  | _ i ih =>
   intro hi
   cases hL:L.getD i false with
   | true=>rfl
   | false =>
    exfalso
    have hmem:i∈Region.ready .any ops L:=by
     unfold Region.ready
     rw [List.mem_filter]
     refine ⟨List.mem_range.2 hi,?_⟩
     have hL':L.getD i true=false:=by
      have hlt:i<L.size:=by rw [hI.len];exact hi
      simp only [Array.getD,hlt,dite_true] at hL ⊢
      exact hL
     rw [hL',Array.getElem?_eq_getElem hi]
     simp only [Bool.not_false,Bool.true_and,Option.map_some,Option.getD_some]
     rw [Array.all_eq_true_iff_forall_mem]
     intro e he
     cases hb:Region.binds .any e with
     | false=>rfl
     | true =>
      have h1:=okB.edges hok (Array.getElem?_eq_getElem hi) e he hb
      rw [ih e.on h1 (by omega)];rfl
    rw [hr] at hmem
    cases hmem
 intro fuel
 induction fuel with
 | zero =>
  intro L O a w hI hf
  have hr:Region.ready .any ops L=[]:=by
   rw [List.eq_nil_iff_forall_not_mem]
   intro i hi
   unfold Region.ready at hi
   rw [List.mem_filter] at hi
   obtain ⟨h1,h2⟩:=hi
   have hlt:i<L.size:=by rw [hI.len];exact List.mem_range.1 h1
   simp only [Bool.and_eq_true,Bool.not_eq_true'] at h2
   have h3:L[i]=false:=by simpa [Array.getD,hlt] using h2.1
   have h4:false∈L.toList.filter (· == false):=by
    rw [List.mem_filter];exact ⟨by rw [← h3];simp,rfl⟩
   have h5:=List.length_pos_of_mem h4
   omega
  exact ⟨hr,hend L O a w (hall L O a w hI hr) hI⟩
 | succ fuel ih =>
  intro L O a w hI hf
  refine ⟨fun hr=>hend L O a w (hall L O a w hI hr) hI,fun j hj=>?_⟩
  unfold Region.ready at hj
  rw [List.mem_filter] at hj
  obtain ⟨h1,h2⟩:=hj
  have hjn:j<ops.size:=List.mem_range.1 h1
  have hjL:j<L.size:=by rw [hI.len];exact hjn
  have ho:ops[j]?=some ops[j]:=Array.getElem?_eq_getElem hjn
  generalize ops[j]=o at ho
  rw [ho] at h2
  simp only [Bool.and_eq_true,Bool.not_eq_true',Option.map_some,Option.getD_some] at h2
  obtain ⟨h2,h3⟩:=h2
  have hjf:L.getD j false=false:=by
   simp only [Array.getD,hjL,dite_true] at h2 ⊢
   exact h2
  have hpre:∀ e∈o.after,Region.binds .any e=true→L.getD e.on false=true:=by
   intro e he hb
   have:=Array.all_eq_true_iff_forall_mem.1 h3 e he
   simpa [hb] using this
  have hcount:((L.setIfInBounds j true).toList.filter (· == false)).length≤fuel:=by
   have key:∀ (l:List Bool) (j:Nat),l[j]?=some false→((l.set j true).filter (· == false)).length+1=(l.filter (· == false)).length:=by
    intro l
    induction l with
    | nil=>intro j h;simp at h
    | cons x r ih =>
     intro j h
     cases j with
     | zero =>
      obtain rfl:x=false:=by simpa using h
      simp
     | succ j =>
      have:=ih j (by simpa using h)
      cases x <;> simp_all
   have h6:L.toList[j]?=some false:=by
    rw [Array.getElem?_toList,Array.getElem?_eq_getElem hjL]
    congr 1
    simpa [Array.getD,hjL] using hjf
   have:=key L.toList j h6
   rw [Array.toList_setIfInBounds]
   omega
  have hst:=inv_stepE hE hEr hok hcons hobs hI ho hjf hpre (K:=fun a' w'=>wpAny P .any ops Q fuel (L.setIfInBounds j true) a' w') (fun O' a' w' h=>ih _ O' a' w' h hcount)
  unfold wpOp
  rw [ho]
  simp only []
  split
  ·rename_i hw
   rw [if_pos hw] at hst
   exact .inl hst
  ·rename_i hw
   rw [if_neg hw] at hst
   exact hst

theorem list_of_invE (hE:∀ i j k,E i k→E j k→i=j) (hEr:∀ i k,E i k→k<w0.heap.size) (hok:okB ops a0.tmps.size=true) (hcons:consB ops C=true) (hobs:ObsE P ops Q E C F a0 w0 ops.toList 0)
  (hend:∀ (L:Array Bool) (O:Nat→Nat→Prop) (a:Act) (w:World),(∀ i,i<ops.size→L.getD i false=true)→InvE ops E C F a0 w0 L O a w→Q .normal a w) :
  ∀ (n j:Nat) (L:Array Bool) (O:Nat→Nat→Prop) (a:Act) (w:World),ops.size=j+n→InvE ops E C F a0 w0 L O a w→(∀ i,i<ops.size→(L.getD i false=true↔i<j))→wpList P ops Q (ops.toList.drop j) a w:=by
 intro n
 induction n with
 | zero =>
  intro j L O a w hn hI hL
  rw [List.drop_eq_nil_of_le (by simp;omega)]
  exact wpList_nil (hend L O a w (fun i hi=>(hL i hi).2 (by omega)) hI)
 | succ n ih =>
  intro j L O a w hn hI hL
  have hjn:j<ops.size:=by omega
  have ho:ops[j]?=some ops[j]:=Array.getElem?_eq_getElem hjn
  have hd:ops.toList.drop j=ops[j] :: ops.toList.drop (j+1):=by
   rw [List.drop_eq_getElem_cons (by simpa using hjn)];simp
  rw [hd]
  have hjL:j<L.size:=by rw [hI.len];exact hjn
  have hjf:L.getD j false=false:=by
   cases h:L.getD j false with
   | false=>rfl
   | true=>have:=(hL j hjn).1 h;omega
  refine wpList_step fun K hK=>inv_stepE hE hEr hok hcons hobs hI ho hjf (fun e he hb=>?_) (fun O' a' w' h=>hK a' w' (ih (j+1) _ O' a' w' (by omega) h fun i hi=>?_))
  ·have h1:=okB.edges hok ho e he hb
   exact (hL e.on (by omega)).2 h1
  ·by_cases e:i=j
   ·subst e;simp [Array.getD,hjL]
   ·have:(L.setIfInBounds j true).getD i false=L.getD i false:=by
     simp only [Array.getD_eq_getD_getElem?,Array.getElem?_setIfInBounds_ne (fun h=>e h.symm)]
    rw [this,hL i hi];omega

theorem wp_region_est {id:Nat} {a0:Act} {w0:World} (hm:P.follows .mixedOrders=true) (E:Nat→Nat→Prop) (C:Nat→List Nat) (F:Nat→(Nat→Value)→Value→World→(Nat→Prop)→Prop) (hE:∀ i j k,E i k→E j k→i=j) (hEr:∀ i k,E i k→k<w0.heap.size) (hok:okB ops a0.tmps.size=true) (hcons:consB ops C=true)
  (hobs:ObsE P ops Q E C F a0 w0.drew ops.toList 0)
  (hend:∀ a w (O:Nat→Nat→Prop),a.defers=a0.defers→a.tmps.size=a0.tmps.size→Chg (fun k=>∃ i,E i k) w0.drew w →
   (∀ (i:Nat) (o:Oper) (d:Nat),ops[i]?=some o→o.dst=some d→(∀ k,k<ops.size→i∉C k)→F i (slots a) (a.tmps.getD d undef) w (O i)∧∀ k,O i k→k<w.heap.size∧¬ Fix w0.drew E k) →
   (∀ (i:Nat) (o:Oper),ops[i]?=some o→o.dst=none→(∀ k,k<ops.size→i∉C k)→(∃ v,F i (slots a) v w (O i))∧∀ k,O i k→k<w.heap.size∧¬ Fix w0.drew E k) →
   (∀ i i',i<ops.size→i'<ops.size→(∀ k,k<ops.size→i∉C k)→(∀ k,k<ops.size→i'∉C k)→i≠i'→∀ k,O i k→¬ O i' k) →
   (∀ (t:Nat),(∀ (i:Nat) (o:Oper),ops[i]?=some o→o.dst≠some t)→a.tmps.getD t undef=a0.tmps.getD t undef)→Q .normal a w) :
  (Code.region id ops true).wp P Q a0 w0:=by
 refine wp_region_any hm ?_
 refine any_of_invE (E:=E) (C:=C) (F:=F) (a0:=a0) (w0:=w0.drew) hE hEr hok hcons hobs ?_ _ _ (fun _ _=>False) _ _ ?_ ?_
 ·intro L O a w hL hI
  have hl:∀ i,i<ops.size→(∀ k,k<ops.size→i∉C k)→live ops C L i:=fun i hi hn=>⟨hL i hi,fun k hk _=>hn k hk⟩
  refine hend a w O hI.defers hI.size hI.world (fun i o d hi hd hn=>?_) (fun i o hi hd hn=>?_) (fun i i' hi hi' hn hn' hne=>hI.apart i i' (hl i hi hn) (hl i' hi' hn') hne) (fun t ht=>hI.same t fun i o hi _=>ht i o hi)
  ·have hl:=hl i (Array.getElem?_eq_some_iff.1 hi).1 hn
   exact ⟨hI.fact i o d hi hd hl,fun k hO=>⟨(hI.owns i hl k hO).1,(hI.owns i hl k hO).2.1⟩⟩
  ·have hl:=hl i (Array.getElem?_eq_some_iff.1 hi).1 hn
   exact ⟨hI.nofact i o hi hd hl,fun k hO=>⟨(hI.owns i hl k hO).1,(hI.owns i hl k hO).2.1⟩⟩
 ·refine ⟨rfl,rfl,?_,?_,?_,?_,fun _ _=>rfl,?_,Chg.refl _ _,fun _ _ _ _=>rfl,by simp,fun i o d _ _ h=>by simp [Array.getD] at h⟩
  ·intro i o d _ _ h;have:=h.1;simp [Array.getD] at this
  ·intro i o _ _ h;have:=h.1;simp [Array.getD] at this
  ·intro i _ k h;exact h.elim
  ·intro i j _ _ _ k h;exact h.elim
  ·intro i o _ h;simp [Array.getD] at h
 ·exact Nat.le_trans (List.length_filter_le _ _) (by simp)
theorem wp_region_est0 {id:Nat} {a0:Act} {w0:World} (E:Nat→Nat→Prop) (C:Nat→List Nat) (F:Nat→(Nat→Value)→Value→World→(Nat→Prop)→Prop) (hE:∀ i j k,E i k→E j k→i=j) (hEr:∀ i k,E i k→k<w0.heap.size) (hok:okB ops a0.tmps.size=true) (hcons:consB ops C=true)
  (hobs:ObsE P ops Q E C F a0 w0 ops.toList 0)
  (hend:∀ a w (O:Nat→Nat→Prop),a.defers=a0.defers→a.tmps.size=a0.tmps.size→Chg (fun k=>∃ i,E i k) w0 w →
   (∀ (i:Nat) (o:Oper) (d:Nat),ops[i]?=some o→o.dst=some d→(∀ k,k<ops.size→i∉C k)→F i (slots a) (a.tmps.getD d undef) w (O i)∧∀ k,O i k→k<w.heap.size∧¬ Fix w0 E k) →
   (∀ (i:Nat) (o:Oper),ops[i]?=some o→o.dst=none→(∀ k,k<ops.size→i∉C k)→(∃ v,F i (slots a) v w (O i))∧∀ k,O i k→k<w.heap.size∧¬ Fix w0 E k) →
   (∀ i i',i<ops.size→i'<ops.size→(∀ k,k<ops.size→i∉C k)→(∀ k,k<ops.size→i'∉C k)→i≠i'→∀ k,O i k→¬ O i' k) →
   (∀ (t:Nat),(∀ (i:Nat) (o:Oper),ops[i]?=some o→o.dst≠some t)→a.tmps.getD t undef=a0.tmps.getD t undef)→Q .normal a w) :
  (Code.region id ops false).wp P Q a0 w0:=by
 refine wp_region_list ?_
 refine list_of_invE (E:=E) (C:=C) (F:=F) (a0:=a0) (w0:=w0) hE hEr hok hcons hobs ?_ ops.size 0 (ops.map fun _=>false) (fun _ _=>False) _ _ (by omega) ?_ (fun i hi=>by simp [Array.getD,hi])
 ·intro L O a w hL hI
  have hl:∀ i,i<ops.size→(∀ k,k<ops.size→i∉C k)→live ops C L i:=fun i hi hn=>⟨hL i hi,fun k hk _=>hn k hk⟩
  refine hend a w O hI.defers hI.size hI.world (fun i o d hi hd hn=>?_) (fun i o hi hd hn=>?_) (fun i i' hi hi' hn hn' hne=>hI.apart i i' (hl i hi hn) (hl i' hi' hn') hne) (fun t ht=>hI.same t fun i o hi _=>ht i o hi)
  ·have hl:=hl i (Array.getElem?_eq_some_iff.1 hi).1 hn
   exact ⟨hI.fact i o d hi hd hl,fun k hO=>⟨(hI.owns i hl k hO).1,(hI.owns i hl k hO).2.1⟩⟩
  ·have hl:=hl i (Array.getElem?_eq_some_iff.1 hi).1 hn
   exact ⟨hI.nofact i o hi hd hl,fun k hO=>⟨(hI.owns i hl k hO).1,(hI.owns i hl k hO).2.1⟩⟩
 ·refine ⟨rfl,rfl,?_,?_,?_,?_,fun _ _=>rfl,?_,Chg.refl _ _,fun _ _ _ _=>rfl,by simp,fun i o d _ _ h=>by simp [Array.getD] at h⟩
  ·intro i o d _ _ h;have:=h.1;simp [Array.getD] at this
  ·intro i o _ _ h;have:=h.1;simp [Array.getD] at this
  ·intro i _ k h;exact h.elim
  ·intro i j _ _ _ k h;exact h.elim
  ·intro i o _ h;simp [Array.getD] at h
end
def overw (l:List Value) (ws:List (Nat × Value)) (n:Nat):List Value:=(List.range n).map fun i=>(ws.lookup i).getD (l.getD i undef)
def AllW (f:Nat→Value):List (Nat × Value)→Prop
 | []=>True
 | p :: r=>f p.1=p.2∧AllW f r
theorem AllW.look {f:Nat→Value}:∀ {ws:List (Nat × Value)},AllW f ws→∀ i v,ws.lookup i=some v→f i=v
 | [],_,i,v,h=>by simp at h
 | (j,u) :: r,hw,i,v,h=>by
  rw [List.lookup_cons] at h
  by_cases e:i=j
  ·subst e;simp at h;rw [← h];exact hw.1
  ·have:(i == j)=false:=by simpa using e
   rw [this] at h
   exact hw.2.look i v h
theorem slots_eq {ops:Array Oper} {t:Array Value} {L0:List Value} {n:Nat} (ws:List (Nat × Value)) (hs:t.size=n)
  (hsame:∀ i,(∀ (j:Nat) (o:Oper),ops[j]?=some o→o.dst≠some i)→t.getD i undef=L0.toArray.getD i undef) (hw:AllW (fun i=>t.getD i undef) ws)
  (hcov:(List.range n).all (fun i=>nwB ops i || (ws.lookup i).isSome)=true):t=(overw L0 ws n).toArray:=by
 rw [lit t n hs]
 congr 1
 unfold overw
 refine List.map_congr_left fun i hi=>?_
 have hc:=List.all_eq_true.1 hcov i hi
 cases hl:ws.lookup i with
 | some v=>exact hw.look i v hl
 | none =>
  rw [hl] at hc
  simp only [Option.isSome_none,Bool.or_false] at hc
  rw [hsame i (nwB.spec hc)]
  simp [Array.getD_eq_getD_getElem?,List.getD_eq_getElem?_getD]
end Go.RegionEYtdboloabpjmgaaa

namespace Go.RegionEYtdboloabpjmgaaa
open Go.RowKit Go.RegionInvYtdboloabpjmgaaa Go.Proofs.YtdboloabpjmgaaaW.PrintWords

section
variable {P:Program} {ops:Array Oper} {Q:Exit→Act→World→Prop} {w0:World} {E:Nat→Nat→Prop} {Ej:Nat→Prop} {Cj:List Nat} {O:Nat→Nat→Prop} {R:Nat→Prop} {G:Value→World→(Nat→Prop)→Prop} {a:Act} {w:World} {o:Oper}

theorem toE (h:Owes P ops Q Cj O G o a w):OwesE P ops Q (Taken Cj O Ej) G o a w:=by
 unfold Owes at h
 unfold OwesE
 split
 ·rename_i hw
  rw [if_pos hw] at h
  refine Oper.wp_mono ?_ h
  rintro a' w' ⟨v,O',rfl,hG,hC,hO⟩
  exact ⟨v,O',rfl,hG,hC.mono fun _ h=>.inl h,fun k h=>(hO k h).imp .inl id⟩
 ·rename_i hw
  rw [if_neg hw] at h
  exact h
theorem obE_res {v:Value} {w':World} (O':Nat→Prop) (hw:Region.wanted o (yielded ops a.tmps)=true) (hr:(execOp a.eval o).run P w=.ok (.value v) w') (hC:Chg R w w') (hG:G v w' O')
  (hO:∀ k,O' k→R k∨(w.heap.size≤k∧k<w'.heap.size)):OwesE P ops Q R G o a w:=by
 unfold OwesE;rw [if_pos hw];unfold Oper.wp;rw [hr]
 exact ⟨v,O',rfl,hG,hC,hO⟩
theorem obE_run {v:Value} (hw:Region.wanted o (yielded ops a.tmps)=true) (hr:(execOp a.eval o).run P w=.ok (.value v) w) (hG:G v w fun _=>False):OwesE P ops Q R G o a w:=
 obE_res _ hw hr (Chg.refl _ _) hG fun _ h=>h.elim
theorem obE_call {f:FuncId} {fn:Func} {ars:Array Operand} {ts:Array TypeId} (args:Array Value) (hf:P.funcs[f]?=some fn) (hname:(fn.name == "runtime.NumGoroutine")=false) (hb:fn.body.isSome=true)
  (ho:o.op=.call { callee:=.value (.func f),args:=ars,argTypes:=ts }) (hargs:ars.toList.map a.eval=args.toList) (hw:Region.wanted o (yielded ops a.tmps)=true)
  (hc:Calls P f args w fun e w'=>∃ v O',e=.returned v∧G v w' O'∧Chg R w w'∧∀ k,O' k→R k∨(w.heap.size≤k∧k<w'.heap.size)):OwesE P ops Q R G o a w:=by
 unfold OwesE;rw [if_pos hw];unfold Oper.wp
 have hr:(execOp a.eval o).run P w=.ok (.enter f args) w:=by
  have he:=Go.Proofs.YtdboloabpjmgaaaW.PrintLast.enters_ hf hname hb args w
  have hargs':ars.map a.eval=args:=Array.toList_inj.1 (by simpa using hargs)
  unfold execOp
  simp [ho,resolve,Deferred.ofValue,invoke,Act.eval,hargs',he]
 rw [hr]
 refine hc.mono ?_
 rintro e w' ⟨v,O',rfl,hG,hC,hO⟩
 exact ⟨v,O',rfl,hG,hC,hO⟩
theorem obE_list (hw:Region.wanted o (yielded ops a.tmps)=true)
  (h:wpList P ops (fun e a' w'=>e=.normal∧∃ v O',a'=a.put o.dst v∧G v w' O'∧Chg R w w'∧∀ k,O' k→R k∨(w.heap.size≤k∧k<w'.heap.size)) [{ o with guard:=none }] a w):OwesE P ops Q R G o a w:=by
 unfold OwesE;rw [if_pos hw]
 unfold wpList at h
 rw [if_pos (wanted_none rfl)] at h
 have he:execOp a.eval { o with guard:=none }=execOp a.eval o:=by cases o;rfl
 rcases h with h | ⟨_,_,_,h⟩
 ·unfold Oper.wp at *
  rw [he] at h
  generalize (execOp a.eval o).run P w=r at *
  cases r with
  | ok n w' =>
   cases n with
   | value v=>exact h.2
   | skip=>exact h.2
   | defer d=>exact h.2
   | enter f args =>
    refine Calls.mono h fun e w'' he=>?_
    cases e with
    | returned v=>exact he.2
    | panicked c=>exact absurd he.1 (by simp)
    | outgrown=>obtain ⟨_,_,h,_⟩:=he;exact absurd h (by simp)
   | row r args=>exact Rows.mono h fun _ _ he=>he.2
   | _=>simp only [Oper.upon] at h
  | halt x w' =>
   cases x <;> simp only [Oper.upon] at h
   exact absurd h.1 (by simp)
 ·exact absurd h.1 (by simp)
theorem obE_listGrew {B:Nat} {e:TypeId} {size:Nat} {n:Nat} {xs:List Value} (v0:Value) (hw:Region.wanted o (yielded ops a.tmps)=true) (hO:∀ k,v0.ownBlock=some k→R k)
  (h:∀ Q',(∀ v1 w1,w1.ownsRow B e size v1 n xs→w.grownBy w1 v0.ownBlock→(v1.ownBlock=v0.ownBlock∨∃ b,v1.ownBlock=some b∧w.heap.size≤b)→wpList P ops Q' [] (a.put o.dst v1) w1)→wpList P ops Q' [{ o with guard:=none }] a w) :
  OwesE P ops Q R (OwnO B e size n xs) o a w:=by
 refine obE_list hw (h _ fun v1 w1 ho hg hat=>⟨rfl,v1,fun k=>v1.ownBlock=some k,rfl,⟨ho,fun _ h=>h⟩,(Grew.of_append hg hat).1.mono fun k hk=>hO k hk,fun k hk=>?_⟩)
 rcases (Grew.of_append hg hat).2 k hk with h' | h'
 ·exact .inl (hO k h')
 ·exact .inr ⟨h',own_lt ho k hk⟩

theorem stableE_det (V:Value):StableE w0 E fun v _ _=>v=V:=fun _ _ _ _ h _ _=>h
theorem stableE_pure {p:Value→Prop}:StableE w0 E fun v _ _=>p v:=fun _ _ _ _ h _ _=>h
theorem stableE_own (B:Nat) (e:TypeId) (size n:Nat) (xs:List Value):StableE w0 E (OwnO B e size n xs):=by
 rintro v w w' O ⟨h,hO⟩ hz hk
 exact ⟨ownsRow_same h fun k hv=>hk k (own_lt h k hv) (.inr (hO k hv)),hO⟩
theorem stableE_and {G G':Value→World→(Nat→Prop)→Prop} (h:StableE w0 E G) (h':StableE w0 E G'):StableE w0 E fun v w O=>G v w O∧G' v w O:=
 fun v w w' O hg hz hk=>⟨h v w w' O hg.1 hz hk,h' v w w' O hg.2 hz hk⟩
theorem stableE_ex {α:Type} {G:α→Value→World→(Nat→Prop)→Prop} (h:∀ x,StableE w0 E (G x)):StableE w0 E fun v w O=>∃ x,G x v w O:=
 fun v w w' O ⟨x,hg⟩ hz hk=>⟨x,h x v w w' O hg hz hk⟩
theorem stableE_block (g:Nat) (ob:Obj):StableE w0 E fun _ w O=>w.heap[g]?=some ob∧O g:=
 fun _ w w' O hg _ hk=>⟨(hk g (blk_lt hg.1) (.inr hg.2)).trans hg.1,hg.2⟩

def est2 (i1 i2:Nat) (A B:Nat→Prop) (i k:Nat):Prop:=(i=i1∧A k)∨(i=i2∧B k)
theorem est2_dis {i1 i2:Nat} {A B:Nat→Prop} (h:∀ k,A k→B k→False):∀ i j k,est2 i1 i2 A B i k→est2 i1 i2 A B j k→i=j:=by
 rintro i j k (⟨rfl,ha⟩ | ⟨rfl,hb⟩) (⟨rfl,ha'⟩ | ⟨rfl,hb'⟩)
 ·rfl
 ·exact (h k ha hb').elim
 ·exact (h k ha' hb).elim
 ·rfl
theorem est2_range {w:World} {i1 i2:Nat} {A B:Nat→Prop} (hA:∀ k,A k→k<w.heap.size) (hB:∀ k,B k→k<w.heap.size):∀ i k,est2 i1 i2 A B i k→k<w.heap.size:=by
 rintro i k (⟨rfl,ha⟩ | ⟨rfl,hb⟩)
 ·exact hA k ha
 ·exact hB k hb
theorem est2_fix {w:World} {i1 i2:Nat} {A B:Nat→Prop} {k:Nat} (hk:k<w.heap.size) (hA:¬ A k) (hB:¬ B k):Fix w (est2 i1 i2 A B) k:=⟨hk,fun i h=>h.elim (fun h=>hA h.2) fun h=>hB h.2⟩
theorem est2_chg {w w':World} {i1 i2:Nat} {A B:Nat→Prop} (h:Chg (fun k=>∃ i,est2 i1 i2 A B i k) w w'):Chg (fun k=>A k∨B k) w w':=h.mono fun k ⟨_,h⟩=>h.imp And.right And.right
theorem _root_.Go.RegionInvYtdboloabpjmgaaa.Chg.still {S:Nat→Prop} {w w':World} {k:Nat} {ob:Obj} (h:Chg S w w') (hk:w.heap[k]?=some ob) (hn:¬ S k):w'.heap[k]?=some ob:=(h.block k (blk_lt hk) hn).trans hk
theorem KnownE.fix {C:Nat→List Nat} {F:Nat→(Nat→Value)→Value→World→(Nat→Prop)→Prop} {a0:Act} {j:Nat} (h:KnownE ops E C F a0 w0 j o a w O):∀ k,Fix w0 E k→w.heap[k]?=w0.heap[k]?:=
 fun k hk=>h.world.block k hk.1 fun ⟨i,hi⟩=>hk.2 i hi

theorem obE_store {w':World} (O':Nat→Prop) (hw:Region.wanted o (yielded ops a.tmps)=true) (hr:(execOp a.eval o).run P w=.ok .skip w') (hC:Chg R w w') (hG:G undef w' O')
  (hO:∀ k,O' k→R k∨(w.heap.size≤k∧k<w'.heap.size)):OwesE P ops Q R G o a w:=by
 unfold OwesE;rw [if_pos hw];unfold Oper.wp;rw [hr]
 exact ⟨undef,O',rfl,hG,hC,hO⟩
theorem obE_loadRow {t t':TypeId} {g:Nat} {cs:Array Value} {fr:Nat × Nat} {d:TypeDesc} {x:Operand} (ho:o.op=.load t x) (hx:a.eval x=.pointer (some ⟨g,0,none⟩)) (hg:w.heap[g]?=some (.cells cs t' fr)) (hu:P.underlying t=some d)
  (hd:(match d with | .struct _ | .array _ _=>true | _=>false)=true) (hi:(P.info? t).map (·.size)=some cs.size) (hw:Region.wanted o (yielded ops a.tmps)=true) (hG:G (.agg cs) w fun _=>False):OwesE P ops Q R G o a w:=by
 unfold OwesE;rw [if_pos hw]
 exact wp_load_row t x ho g hx t' cs fr d hg hu hd hi ⟨_,_,rfl,hG,Chg.refl _ _,fun _ h=>h.elim⟩
theorem obE_lit {cs:Array Value} {e:TypeId} {m:Nat} (hw:Region.wanted o (yielded ops a.tmps)=true) (hr:(execOp a.eval o).run P w=.ok (.value (.slice (some ⟨w.heap.size,0,none⟩) m m)) (w.alloc (.cells cs e (0,0)))) (hG:∀ w',w'.heap[w.heap.size]?=some (.cells cs e (0,0))→Below w.heap.size w w'→G (.slice (some ⟨w.heap.size,0,none⟩) m m) w' fun k=>k=w.heap.size):OwesE P ops Q R G o a w:=
 obE_res (fun k=>k=w.heap.size) hw hr (Chg.of_below ((Below.refl _ _).alloc (Nat.le_refl _) _)) (hG _ (blk_new _ _) ((Below.refl _ _).alloc (Nat.le_refl _) _)) (fun k hk=>.inr ⟨by omega,by simp;omega⟩)
end
end Go.RegionEYtdboloabpjmgaaa

namespace Go.RegionEYtdboloabpjmgaaa
open Go.RowKit Go.RegionInvYtdboloabpjmgaaa Go.Proofs.YtdboloabpjmgaaaW.PrintWords
section
variable {P:Program} {ops:Array Oper} {Q:Exit→Act→World→Prop} {R:Nat→Prop} {a:Act} {w:World} {o:Oper}
theorem obE_callV {f:FuncId} {fn:Func} {xs:Array Operand} {ts:Array TypeId} {v:Value} (args:Array Value) (hf:P.funcs[f]?=some fn) (hname:(fn.name == "runtime.NumGoroutine")=false) (hb:fn.body.isSome=true)
  (ho:o.op=.call { callee:=.value (.func f),args:=xs,argTypes:=ts }) (hargs:xs.toList.map a.eval=args.toList) (hw:Region.wanted o (yielded ops a.tmps)=true)
  (hc:Calls P f args w fun e w'=>e=.returned v∧Below w.heap.size w w'):OwesE P ops Q R (fun u _ _=>u=v) o a w:=by
 refine obE_call args hf hname hb ho hargs hw (hc.mono ?_)
 rintro e w' ⟨rfl,hB⟩
 exact ⟨_,fun _=>False,rfl,rfl,Chg.of_below hB,fun k h=>h.elim⟩
end
end Go.RegionEYtdboloabpjmgaaa

namespace Go.Proofs.Ytdboloabpjmgaaa
open Go.RowKit Go.Proofs.YtdboloabpjmgaaaW.PrintWords Go.RegionInvYtdboloabpjmgaaa Go.RegionEYtdboloabpjmgaaa
set_option linter.unusedVariables false

def lf1_ops:List Oper:=[
 { dst:=some 3,op:=Go.Op.fieldAddr 28 (Go.Operand.tmp 1) 0,type:=0,pos:= "term.go:53",after:=#[],guard:=none },
 { dst:=some 4,op:=Go.Op.load 3 (Go.Operand.tmp 3),type:=3,pos:= "term.go:53",after:=#[{ on:=0,ground:=Go.Ground.data }],guard:=none },
 { dst:=some 5,op:=Go.Op.call { callee:=Go.Callee.value (Go.Operand.func 104),args:=#[Go.Operand.tmp 4],argTypes:=#[3] },type:=3,pos:= "term.go:53",after:=#[{ on:=1,ground:=Go.Ground.data }],guard:=none },
 { dst:=some 6,op:=Go.Op.binOp Go.BinOp.lss 3 (Go.Operand.tmp 5) (Go.Operand.const (Go.Value.int Go.IntKind.i64 1)) 3,type:=4,pos:= "term.go:53",after:=#[{ on:=2,ground:=Go.Ground.data }],guard:=none },
 { dst:=some 7,op:=Go.Op.move (Go.Operand.tmp 6),type:=4,pos:= "term.go:53",after:=#[{ on:=3,ground:=Go.Ground.data },{ on:=2,ground:=Go.Ground.chain }],guard:=none },
 { dst:=some 8,op:=Go.Op.fieldAddr 28 (Go.Operand.tmp 1) 5,type:=0,pos:= "term.go:53",after:=#[{ on:=4,ground:=Go.Ground.guard }],guard:=some (4,false) },
 { dst:=some 9,op:=Go.Op.load 26 (Go.Operand.tmp 8),type:=26,pos:= "term.go:53",after:=#[{ on:=5,ground:=Go.Ground.data },{ on:=4,ground:=Go.Ground.guard }],guard:=some (4,false) },
 { dst:=some 10,op:=Go.Op.call { callee:=Go.Callee.builtin Go.Builtin.len,args:=#[Go.Operand.tmp 9],argTypes:=#[26] },type:=3,pos:= "term.go:53",after:=#[{ on:=6,ground:=Go.Ground.data },{ on:=4,ground:=Go.Ground.guard }],guard:=some (4,false) },
 { dst:=some 11,op:=Go.Op.fieldAddr 28 (Go.Operand.tmp 1) 0,type:=0,pos:= "term.go:53",after:=#[{ on:=4,ground:=Go.Ground.guard }],guard:=some (4,false) },
 { dst:=some 12,op:=Go.Op.load 3 (Go.Operand.tmp 11),type:=3,pos:= "term.go:53",after:=#[{ on:=8,ground:=Go.Ground.data },{ on:=4,ground:=Go.Ground.guard }],guard:=some (4,false) },
 { dst:=some 13,op:=Go.Op.call { callee:=Go.Callee.value (Go.Operand.func 104),args:=#[Go.Operand.tmp 12],argTypes:=#[3] },type:=3,pos:= "term.go:53",after:=#[{ on:=9,ground:=Go.Ground.data },{ on:=4,ground:=Go.Ground.chain },{ on:=4,ground:=Go.Ground.guard }],guard:=some (4,false) },
 { dst:=some 14,op:=Go.Op.binOp Go.BinOp.lss 3 (Go.Operand.tmp 10) (Go.Operand.tmp 13) 3,type:=4,pos:= "term.go:53",after:=#[{ on:=7,ground:=Go.Ground.data },{ on:=10,ground:=Go.Ground.data },{ on:=4,ground:=Go.Ground.guard }],guard:=some (4,false) },
 { dst:=some 15,op:=Go.Op.pick (Go.Operand.tmp 7) (Go.Operand.const (Go.Value.bool true)) (Go.Operand.tmp 14),type:=4,pos:= "term.go:53",after:=#[{ on:=4,ground:=Go.Ground.data },{ on:=11,ground:=Go.Ground.data }],guard:=none },
 { dst:=some 2,op:=Go.Op.assign (Go.Operand.tmp 15),type:=4,pos:= "term.go:53",after:=#[{ on:=12,ground:=Go.Ground.data },{ on:=10,ground:=Go.Ground.chain },{ on:=0,ground:=Go.Ground.phase },{ on:=1,ground:=Go.Ground.phase },{ on:=2,ground:=Go.Ground.phase },{ on:=3,ground:=Go.Ground.phase },{ on:=4,ground:=Go.Ground.phase },{ on:=5,ground:=Go.Ground.phase },{ on:=6,ground:=Go.Ground.phase },{ on:=7,ground:=Go.Ground.phase },{ on:=8,ground:=Go.Ground.phase },{ on:=9,ground:=Go.Ground.phase },{ on:=10,ground:=Go.Ground.phase },{ on:=11,ground:=Go.Ground.phase },{ on:=12,ground:=Go.Ground.phase }],guard:=none }]
def lf1_F (w0:World) (b:Nat) (p:Pl) (t:Tm) (ar:Int):Nat→(Nat→Value)→Value→World→(Nat→Prop)→Prop:=fun rix=>match rix with
 | 0=>fun _ v _ _=>v=.pointer (some ⟨b,0,none⟩)
 | 1=>fun _ v _ _=>v=.int .i64 t.kind
 | 2=>fun _ v _ _=>v=.int .i64 ar
 | 3=>fun _ v _ _=>v=.bool true
 | 4=>fun _ v _ _=>v=.bool true
 | 5=>fun _ v _ _=>v=undef
 | 6=>fun _ v _ _=>v=undef
 | 7=>fun _ v _ _=>v=undef
 | 8=>fun _ v _ _=>v=undef
 | 9=>fun _ v _ _=>v=undef
 | 10=>fun _ v _ _=>v=undef
 | 11=>fun _ v _ _=>v=undef
 | 12=>fun _ v _ _=>v=.bool true
 | 13=>fun _ v _ _=>v=.bool true
 | _=>fun _ _ _ _=>True
def lf1_C:Nat→List Nat:=fun rix=>match rix with
 | _=>[]
theorem lf1_nw1:nwB lf1_ops.toArray 1=true:=by kernel_rfl
set_option maxRecDepth 100000 in
set_option maxHeartbeats 8000000 in
theorem lf1_obs (w0:World) (b:Nat) (p:Pl) (t:Tm) (ar:Int) (hx:w0.heap[b]?=some (tmO p t)) (har:arZ t.kind=ar) (ha:decide (ar<1)=true) (Q:Exit→Act→World→Prop) (a0:Act) (hi1:a0.tmps.getD 1 undef=.pointer (some ⟨b,0,none⟩)) :
  ObsE Try.prog lf1_ops.toArray Q (est2 0 0 (fun _=>False) (fun _=>False)) lf1_C (lf1_F w0 b p t ar) a0 w0 lf1_ops.toArray.toList 0:=by
 have nw1:=lf1_nw1
 refine ⟨?_,?_,?_,?_,?_,?_,?_,?_,?_,?_,?_,?_,?_,?_,trivial⟩
 ·refine ⟨⟨fun τ=>stableE_det _,leans_not⟩,?_⟩
  intro a w O hk
  have e1:a.eval (.tmp 1)=.pointer (some ⟨b,0,none⟩):=(hk.init 1 (initialB_of_nw nw1)).trans hi1
  exact obE_run (wanted_none rfl) (by unfold execOp;simp only [];rw [e1];go_simp) rfl
 ·refine ⟨⟨fun τ=>stableE_det _,leans_not⟩,?_⟩
  intro a w O hk
  have e3:a.eval (.tmp 3)=.pointer (some ⟨b,0,none⟩):=hk.fact 0 _ 3 rfl rfl rfl rfl
  have x1:=hk.world.still hx (fun ⟨_,h⟩=>h.elim And.right And.right)
  obtain ⟨p0,p1,p2,p3,p4,p5,p6,p7⟩:=row8 x1
  exact obE_run (wanted_none rfl) (by unfold execOp;simp only [];rw [e3];go_simp) rfl
 ·refine ⟨⟨fun τ=>stableE_det _,leans_not⟩,?_⟩
  intro a w O hk
  have e4:a.eval (.tmp 4)=.int .i64 t.kind:=hk.fact 1 _ 4 rfl rfl rfl rfl
  have x1:=hk.world.still hx (fun ⟨_,h⟩=>h.elim And.right And.right)
  obtain ⟨p0,p1,p2,p3,p4,p5,p6,p7⟩:=row8 x1
  exact obE_callV #[.int .i64 t.kind] rfl rfl rfl rfl (by simp only [List.map_cons,List.map_nil];rw [e4]) (wanted_none rfl) ((tar_calls t.kind w).mono fun e w' h=>⟨by rw [h.1,har],h.2 ▸ Below.refl _ _⟩)
 ·refine ⟨⟨fun τ=>stableE_det _,leans_not⟩,?_⟩
  intro a w O hk
  have e5:a.eval (.tmp 5)=.int .i64 ar:=hk.fact 2 _ 5 rfl rfl rfl rfl
  have x1:=hk.world.still hx (fun ⟨_,h⟩=>h.elim And.right And.right)
  obtain ⟨p0,p1,p2,p3,p4,p5,p6,p7⟩:=row8 x1
  exact toE (ob_bin rfl e5 rfl (run_lssB _ _ true ha) (by decide) (wanted_none rfl) rfl)
 ·refine ⟨⟨fun τ=>stableE_det _,leans_not⟩,?_⟩
  intro a w O hk
  have e6:a.eval (.tmp 6)=.bool true:=hk.fact 3 _ 6 rfl rfl rfl rfl
  exact toE (ob_move rfl e6 (wanted_none rfl) rfl)
 ·refine ⟨⟨fun τ=>stableE_det _,leans_not⟩,?_⟩
  intro a w O hk
  have e1:a.eval (.tmp 1)=.pointer (some ⟨b,0,none⟩):=(hk.init 1 (initialB_of_nw nw1)).trans hi1
  have e7:a.eval (.tmp 7)=.bool true:=hk.fact 4 _ 7 rfl rfl rfl rfl
  exact toE (ob_skip (unwanted_of rfl rfl rfl e7 (by decide)) rfl)
 ·refine ⟨⟨fun τ=>stableE_det _,leans_not⟩,?_⟩
  intro a w O hk
  have e8:a.eval (.tmp 8)=undef:=hk.fact 5 _ 8 rfl rfl rfl rfl
  have e7:a.eval (.tmp 7)=.bool true:=hk.fact 4 _ 7 rfl rfl rfl rfl
  exact toE (ob_skip (unwanted_of rfl rfl rfl e7 (by decide)) rfl)
 ·refine ⟨⟨fun τ=>stableE_det _,leans_not⟩,?_⟩
  intro a w O hk
  have e9:a.eval (.tmp 9)=undef:=hk.fact 6 _ 9 rfl rfl rfl rfl
  have e7:a.eval (.tmp 7)=.bool true:=hk.fact 4 _ 7 rfl rfl rfl rfl
  exact toE (ob_skip (unwanted_of rfl rfl rfl e7 (by decide)) rfl)
 ·refine ⟨⟨fun τ=>stableE_det _,leans_not⟩,?_⟩
  intro a w O hk
  have e1:a.eval (.tmp 1)=.pointer (some ⟨b,0,none⟩):=(hk.init 1 (initialB_of_nw nw1)).trans hi1
  have e7:a.eval (.tmp 7)=.bool true:=hk.fact 4 _ 7 rfl rfl rfl rfl
  exact toE (ob_skip (unwanted_of rfl rfl rfl e7 (by decide)) rfl)
 ·refine ⟨⟨fun τ=>stableE_det _,leans_not⟩,?_⟩
  intro a w O hk
  have e11:a.eval (.tmp 11)=undef:=hk.fact 8 _ 11 rfl rfl rfl rfl
  have e7:a.eval (.tmp 7)=.bool true:=hk.fact 4 _ 7 rfl rfl rfl rfl
  exact toE (ob_skip (unwanted_of rfl rfl rfl e7 (by decide)) rfl)
 ·refine ⟨⟨fun τ=>stableE_det _,leans_not⟩,?_⟩
  intro a w O hk
  have e12:a.eval (.tmp 12)=undef:=hk.fact 9 _ 12 rfl rfl rfl rfl
  have e7:a.eval (.tmp 7)=.bool true:=hk.fact 4 _ 7 rfl rfl rfl rfl
  exact toE (ob_skip (unwanted_of rfl rfl rfl e7 (by decide)) rfl)
 ·refine ⟨⟨fun τ=>stableE_det _,leans_not⟩,?_⟩
  intro a w O hk
  have e10:a.eval (.tmp 10)=undef:=hk.fact 7 _ 10 rfl rfl rfl rfl
  have e13:a.eval (.tmp 13)=undef:=hk.fact 10 _ 13 rfl rfl rfl rfl
  have e7:a.eval (.tmp 7)=.bool true:=hk.fact 4 _ 7 rfl rfl rfl rfl
  exact toE (ob_skip (unwanted_of rfl rfl rfl e7 (by decide)) rfl)
 ·refine ⟨⟨fun τ=>stableE_det _,leans_not⟩,?_⟩
  intro a w O hk
  have e7:a.eval (.tmp 7)=.bool true:=hk.fact 4 _ 7 rfl rfl rfl rfl
  have e14:a.eval (.tmp 14)=undef:=hk.fact 11 _ 14 rfl rfl rfl rfl
  exact toE (ob_pick rfl e7 rfl (wanted_none rfl) rfl)
 ·refine ⟨⟨fun τ=>stableE_det _,leans_not⟩,?_⟩
  intro a w O hk
  have e15:a.eval (.tmp 15)=.bool true:=hk.fact 12 _ 15 rfl rfl rfl rfl
  exact toE (ob_assign rfl e15 (wanted_none rfl) rfl)
set_option maxRecDepth 100000 in
set_option maxHeartbeats 8000000 in
theorem lf1_region {Q:Exit→Act→World→Prop} {id:Nat} (w0:World) (b:Nat) (p:Pl) (t:Tm) (ar:Int) {s0 s2 s3 s4 s5 s6 s7 s8 s9 s10 s11 s12 s13 s14 s15:Value} (hx:w0.heap[b]?=some (tmO p t)) (har:arZ t.kind=ar) (ha:decide (ar<1)=true)
  (hend:∀ (w':World),Chg (fun k=>False∨False) w0 w'→Q .normal { tmps:=(s0 :: (.pointer (some ⟨b,0,none⟩)) :: (.bool true) :: (.pointer (some ⟨b,0,none⟩)) :: (.int .i64 t.kind) :: (.int .i64 ar) :: (.bool true) :: (.bool true) :: undef :: undef :: undef :: undef :: undef :: undef :: undef :: (.bool true) :: []:List Value).toArray,defers:=[] } w') :
  (Code.region id lf1_ops.toArray true).wp Try.prog Q { tmps:=(s0 :: (.pointer (some ⟨b,0,none⟩)) :: s2 :: s3 :: s4 :: s5 :: s6 :: s7 :: s8 :: s9 :: s10 :: s11 :: s12 :: s13 :: s14 :: s15 :: []:List Value).toArray,defers:=[] } w0:=by
 refine wp_region_est (by kernel_rfl) (est2 0 0 (fun _=>False) (fun _=>False)) lf1_C (lf1_F w0 b p t ar) (est2_dis (fun _ h _=>h)) (est2_range (fun _ h=>h.elim) (fun _ h=>h.elim)) (by rfl) (by kernel_rfl) (lf1_obs w0.drew b p t ar hx har ha _ _ rfl) ?_
 intro a w' O hd hs hb hf hf2 ha hsame
 have hl:=slots_eq (ops:=lf1_ops.toArray) [(2,.bool true),(3,.pointer (some ⟨b,0,none⟩)),(4,.int .i64 t.kind),(5,.int .i64 ar),(6,.bool true),(7,.bool true),(8,undef),(9,undef),(10,undef),(11,undef),(12,undef),(13,undef),(14,undef),(15,.bool true)] (show a.tmps.size=16 from hs) (fun i h=>hsame i h) ⟨(hf 13 _ 2 rfl rfl (by decide)).1,(hf 0 _ 3 rfl rfl (by decide)).1,(hf 1 _ 4 rfl rfl (by decide)).1,(hf 2 _ 5 rfl rfl (by decide)).1,(hf 3 _ 6 rfl rfl (by decide)).1,(hf 4 _ 7 rfl rfl (by decide)).1,(hf 5 _ 8 rfl rfl (by decide)).1,(hf 6 _ 9 rfl rfl (by decide)).1,(hf 7 _ 10 rfl rfl (by decide)).1,(hf 8 _ 11 rfl rfl (by decide)).1,(hf 9 _ 12 rfl rfl (by decide)).1,(hf 10 _ 13 rfl rfl (by decide)).1,(hf 11 _ 14 rfl rfl (by decide)).1,(hf 12 _ 15 rfl rfl (by decide)).1,trivial⟩ (by kernel_rfl)
 obtain ⟨tmps,defers⟩:=a
 obtain rfl:defers=[]:=hd
 have hl':tmps=_:=hl
 rw [hl']
 have hb':=est2_chg hb
 refine Eq.mp ?_ (hend w' ⟨hb'.os,hb'.tape,hb'.output,hb'.size,hb'.block⟩)
 kernel_rfl

def lf0_F (w0:World) (b:Nat) (p:Pl) (t:Tm) (ar:Int) (d:Bool):Nat→(Nat→Value)→Value→World→(Nat→Prop)→Prop:=fun rix=>match rix with
 | 0=>fun _ v _ _=>v=.pointer (some ⟨b,0,none⟩)
 | 1=>fun _ v _ _=>v=.int .i64 t.kind
 | 2=>fun _ v _ _=>v=.int .i64 ar
 | 3=>fun _ v _ _=>v=.bool false
 | 4=>fun _ v _ _=>v=.bool false
 | 5=>fun _ v _ _=>v=.pointer (some ⟨b,7,none⟩)
 | 6=>fun _ v _ _=>v=.slice p.K t.kids.length p.e
 | 7=>fun _ v _ _=>v=.int .i64 t.kids.length
 | 8=>fun _ v _ _=>v=.pointer (some ⟨b,0,none⟩)
 | 9=>fun _ v _ _=>v=.int .i64 t.kind
 | 10=>fun _ v _ _=>v=.int .i64 ar
 | 11=>fun _ v _ _=>v=.bool d
 | 12=>fun _ v _ _=>v=.bool d
 | 13=>fun _ v _ _=>v=.bool d
 | _=>fun _ _ _ _=>True
def lf0_C:Nat→List Nat:=fun rix=>match rix with
 | _=>[]
theorem lf0_nw1:nwB lf1_ops.toArray 1=true:=by kernel_rfl
set_option maxRecDepth 100000 in
set_option maxHeartbeats 8000000 in
theorem lf0_obs (w0:World) (b:Nat) (p:Pl) (t:Tm) (ar:Int) (d:Bool) (hx:w0.heap[b]?=some (tmO p t)) (har:arZ t.kind=ar) (ha:decide (ar<1)=false) (hd:decide ((t.kids.length:Int)<ar)=d) (Q:Exit→Act→World→Prop) (a0:Act) (hi1:a0.tmps.getD 1 undef=.pointer (some ⟨b,0,none⟩)) :
  ObsE Try.prog lf1_ops.toArray Q (est2 0 0 (fun _=>False) (fun _=>False)) lf0_C (lf0_F w0 b p t ar d) a0 w0 lf1_ops.toArray.toList 0:=by
 have nw1:=lf0_nw1
 refine ⟨?_,?_,?_,?_,?_,?_,?_,?_,?_,?_,?_,?_,?_,?_,trivial⟩
 ·refine ⟨⟨fun τ=>stableE_det _,leans_not⟩,?_⟩
  intro a w O hk
  have e1:a.eval (.tmp 1)=.pointer (some ⟨b,0,none⟩):=(hk.init 1 (initialB_of_nw nw1)).trans hi1
  exact obE_run (wanted_none rfl) (by unfold execOp;simp only [];rw [e1];go_simp) rfl
 ·refine ⟨⟨fun τ=>stableE_det _,leans_not⟩,?_⟩
  intro a w O hk
  have e3:a.eval (.tmp 3)=.pointer (some ⟨b,0,none⟩):=hk.fact 0 _ 3 rfl rfl rfl rfl
  have x1:=hk.world.still hx (fun ⟨_,h⟩=>h.elim And.right And.right)
  obtain ⟨p0,p1,p2,p3,p4,p5,p6,p7⟩:=row8 x1
  exact obE_run (wanted_none rfl) (by unfold execOp;simp only [];rw [e3];go_simp) rfl
 ·refine ⟨⟨fun τ=>stableE_det _,leans_not⟩,?_⟩
  intro a w O hk
  have e4:a.eval (.tmp 4)=.int .i64 t.kind:=hk.fact 1 _ 4 rfl rfl rfl rfl
  have x1:=hk.world.still hx (fun ⟨_,h⟩=>h.elim And.right And.right)
  obtain ⟨p0,p1,p2,p3,p4,p5,p6,p7⟩:=row8 x1
  exact obE_callV #[.int .i64 t.kind] rfl rfl rfl rfl (by simp only [List.map_cons,List.map_nil];rw [e4]) (wanted_none rfl) ((tar_calls t.kind w).mono fun e w' h=>⟨by rw [h.1,har],h.2 ▸ Below.refl _ _⟩)
 ·refine ⟨⟨fun τ=>stableE_det _,leans_not⟩,?_⟩
  intro a w O hk
  have e5:a.eval (.tmp 5)=.int .i64 ar:=hk.fact 2 _ 5 rfl rfl rfl rfl
  have x1:=hk.world.still hx (fun ⟨_,h⟩=>h.elim And.right And.right)
  obtain ⟨p0,p1,p2,p3,p4,p5,p6,p7⟩:=row8 x1
  exact toE (ob_bin rfl e5 rfl (run_lssB _ _ false ha) (by decide) (wanted_none rfl) rfl)
 ·refine ⟨⟨fun τ=>stableE_det _,leans_not⟩,?_⟩
  intro a w O hk
  have e6:a.eval (.tmp 6)=.bool false:=hk.fact 3 _ 6 rfl rfl rfl rfl
  exact toE (ob_move rfl e6 (wanted_none rfl) rfl)
 ·refine ⟨⟨fun τ=>stableE_det _,leans_not⟩,?_⟩
  intro a w O hk
  have e1:a.eval (.tmp 1)=.pointer (some ⟨b,0,none⟩):=(hk.init 1 (initialB_of_nw nw1)).trans hi1
  have e7:a.eval (.tmp 7)=.bool false:=hk.fact 4 _ 7 rfl rfl rfl rfl
  have x1:=hk.world.still hx (fun ⟨_,h⟩=>h.elim And.right And.right)
  obtain ⟨p0,p1,p2,p3,p4,p5,p6,p7⟩:=row8 x1
  exact obE_run (wanted_of rfl rfl rfl e7) (by unfold execOp;simp only [];rw [e1];go_simp) rfl
 ·refine ⟨⟨fun τ=>stableE_det _,leans_not⟩,?_⟩
  intro a w O hk
  have e8:a.eval (.tmp 8)=.pointer (some ⟨b,7,none⟩):=hk.fact 5 _ 8 rfl rfl rfl rfl
  have e7:a.eval (.tmp 7)=.bool false:=hk.fact 4 _ 7 rfl rfl rfl rfl
  have x1:=hk.world.still hx (fun ⟨_,h⟩=>h.elim And.right And.right)
  obtain ⟨p0,p1,p2,p3,p4,p5,p6,p7⟩:=row8 x1
  exact obE_run (wanted_of rfl rfl rfl e7) (by unfold execOp;simp only [];rw [e8];go_simp) rfl
 ·refine ⟨⟨fun τ=>stableE_det _,leans_not⟩,?_⟩
  intro a w O hk
  have e9:a.eval (.tmp 9)=.slice p.K t.kids.length p.e:=hk.fact 6 _ 9 rfl rfl rfl rfl
  have e7:a.eval (.tmp 7)=.bool false:=hk.fact 4 _ 7 rfl rfl rfl rfl
  exact toE (ob_len rfl e9 Try.underlying26 (wanted_of rfl rfl rfl e7) rfl)
 ·refine ⟨⟨fun τ=>stableE_det _,leans_not⟩,?_⟩
  intro a w O hk
  have e1:a.eval (.tmp 1)=.pointer (some ⟨b,0,none⟩):=(hk.init 1 (initialB_of_nw nw1)).trans hi1
  have e7:a.eval (.tmp 7)=.bool false:=hk.fact 4 _ 7 rfl rfl rfl rfl
  exact obE_run (wanted_of rfl rfl rfl e7) (by unfold execOp;simp only [];rw [e1];go_simp) rfl
 ·refine ⟨⟨fun τ=>stableE_det _,leans_not⟩,?_⟩
  intro a w O hk
  have e11:a.eval (.tmp 11)=.pointer (some ⟨b,0,none⟩):=hk.fact 8 _ 11 rfl rfl rfl rfl
  have e7:a.eval (.tmp 7)=.bool false:=hk.fact 4 _ 7 rfl rfl rfl rfl
  have x1:=hk.world.still hx (fun ⟨_,h⟩=>h.elim And.right And.right)
  obtain ⟨p0,p1,p2,p3,p4,p5,p6,p7⟩:=row8 x1
  exact obE_run (wanted_of rfl rfl rfl e7) (by unfold execOp;simp only [];rw [e11];go_simp) rfl
 ·refine ⟨⟨fun τ=>stableE_det _,leans_not⟩,?_⟩
  intro a w O hk
  have e12:a.eval (.tmp 12)=.int .i64 t.kind:=hk.fact 9 _ 12 rfl rfl rfl rfl
  have e7:a.eval (.tmp 7)=.bool false:=hk.fact 4 _ 7 rfl rfl rfl rfl
  have x1:=hk.world.still hx (fun ⟨_,h⟩=>h.elim And.right And.right)
  obtain ⟨p0,p1,p2,p3,p4,p5,p6,p7⟩:=row8 x1
  exact obE_callV #[.int .i64 t.kind] rfl rfl rfl rfl (by simp only [List.map_cons,List.map_nil];rw [e12]) (wanted_of rfl rfl rfl e7) ((tar_calls t.kind w).mono fun e w' h=>⟨by rw [h.1,har],h.2 ▸ Below.refl _ _⟩)
 ·refine ⟨⟨fun τ=>stableE_det _,leans_not⟩,?_⟩
  intro a w O hk
  have e10:a.eval (.tmp 10)=.int .i64 t.kids.length:=hk.fact 7 _ 10 rfl rfl rfl rfl
  have e13:a.eval (.tmp 13)=.int .i64 ar:=hk.fact 10 _ 13 rfl rfl rfl rfl
  have e7:a.eval (.tmp 7)=.bool false:=hk.fact 4 _ 7 rfl rfl rfl rfl
  have x1:=hk.world.still hx (fun ⟨_,h⟩=>h.elim And.right And.right)
  obtain ⟨p0,p1,p2,p3,p4,p5,p6,p7⟩:=row8 x1
  exact toE (ob_bin rfl e10 e13 (run_lssB _ _ d hd) (by decide) (wanted_of rfl rfl rfl e7) rfl)
 ·refine ⟨⟨fun τ=>stableE_det _,leans_not⟩,?_⟩
  intro a w O hk
  have e7:a.eval (.tmp 7)=.bool false:=hk.fact 4 _ 7 rfl rfl rfl rfl
  have e14:a.eval (.tmp 14)=.bool d:=hk.fact 11 _ 14 rfl rfl rfl rfl
  exact toE (ob_pick rfl e7 e14 (wanted_none rfl) rfl)
 ·refine ⟨⟨fun τ=>stableE_det _,leans_not⟩,?_⟩
  intro a w O hk
  have e15:a.eval (.tmp 15)=.bool d:=hk.fact 12 _ 15 rfl rfl rfl rfl
  exact toE (ob_assign rfl e15 (wanted_none rfl) rfl)
set_option maxRecDepth 100000 in
set_option maxHeartbeats 8000000 in
theorem lf0_region {Q:Exit→Act→World→Prop} {id:Nat} (w0:World) (b:Nat) (p:Pl) (t:Tm) (ar:Int) (d:Bool) {s0 s2 s3 s4 s5 s6 s7 s8 s9 s10 s11 s12 s13 s14 s15:Value} (hx:w0.heap[b]?=some (tmO p t)) (har:arZ t.kind=ar) (ha:decide (ar<1)=false) (hd:decide ((t.kids.length:Int)<ar)=d)
  (hend:∀ (w':World),Chg (fun k=>False∨False) w0 w'→Q .normal { tmps:=(s0 :: (.pointer (some ⟨b,0,none⟩)) :: (.bool d) :: (.pointer (some ⟨b,0,none⟩)) :: (.int .i64 t.kind) :: (.int .i64 ar) :: (.bool false) :: (.bool false) :: (.pointer (some ⟨b,7,none⟩)) :: (.slice p.K t.kids.length p.e) :: (.int .i64 t.kids.length) :: (.pointer (some ⟨b,0,none⟩)) :: (.int .i64 t.kind) :: (.int .i64 ar) :: (.bool d) :: (.bool d) :: []:List Value).toArray,defers:=[] } w') :
  (Code.region id lf1_ops.toArray true).wp Try.prog Q { tmps:=(s0 :: (.pointer (some ⟨b,0,none⟩)) :: s2 :: s3 :: s4 :: s5 :: s6 :: s7 :: s8 :: s9 :: s10 :: s11 :: s12 :: s13 :: s14 :: s15 :: []:List Value).toArray,defers:=[] } w0:=by
 refine wp_region_est (by kernel_rfl) (est2 0 0 (fun _=>False) (fun _=>False)) lf0_C (lf0_F w0 b p t ar d) (est2_dis (fun _ h _=>h)) (est2_range (fun _ h=>h.elim) (fun _ h=>h.elim)) (by rfl) (by kernel_rfl) (lf0_obs w0.drew b p t ar d hx har ha hd _ _ rfl) ?_
 intro a w' O hd hs hb hf hf2 ha hsame
 have hl:=slots_eq (ops:=lf1_ops.toArray) [(2,.bool d),(3,.pointer (some ⟨b,0,none⟩)),(4,.int .i64 t.kind),(5,.int .i64 ar),(6,.bool false),(7,.bool false),(8,.pointer (some ⟨b,7,none⟩)),(9,.slice p.K t.kids.length p.e),(10,.int .i64 t.kids.length),(11,.pointer (some ⟨b,0,none⟩)),(12,.int .i64 t.kind),(13,.int .i64 ar),(14,.bool d),(15,.bool d)] (show a.tmps.size=16 from hs) (fun i h=>hsame i h) ⟨(hf 13 _ 2 rfl rfl (by decide)).1,(hf 0 _ 3 rfl rfl (by decide)).1,(hf 1 _ 4 rfl rfl (by decide)).1,(hf 2 _ 5 rfl rfl (by decide)).1,(hf 3 _ 6 rfl rfl (by decide)).1,(hf 4 _ 7 rfl rfl (by decide)).1,(hf 5 _ 8 rfl rfl (by decide)).1,(hf 6 _ 9 rfl rfl (by decide)).1,(hf 7 _ 10 rfl rfl (by decide)).1,(hf 8 _ 11 rfl rfl (by decide)).1,(hf 9 _ 12 rfl rfl (by decide)).1,(hf 10 _ 13 rfl rfl (by decide)).1,(hf 11 _ 14 rfl rfl (by decide)).1,(hf 12 _ 15 rfl rfl (by decide)).1,trivial⟩ (by kernel_rfl)
 obtain ⟨tmps,defers⟩:=a
 obtain rfl:defers=[]:=hd
 have hl':tmps=_:=hl
 rw [hl']
 have hb':=est2_chg hb
 refine Eq.mp ?_ (hend w' ⟨hb'.os,hb'.tape,hb'.output,hb'.size,hb'.block⟩)
 kernel_rfl

set_option maxHeartbeats 2000000 in
theorem leaf_calls (t:Tm) (p:Pl) (w:World):Calls Try.prog 75 #[tmV p t] w fun e w'=>e=.returned (.bool (leafT t))∧Below w.heap.size w w':=by
 have HX:=Ak (show (w.alloc (tmO p t)).heap[w.heap.size]?=some (tmO p t) from blk_new _ _)
 have HB:=Ak (show Below w.heap.size w (w.alloc (tmO p t)) from below_alloc (Below.refl _ _) _)
 unfold tmV
 go_enter Try.func75,Try.ntmps75
 go_upto_region 1 with (fail)
 obtain ⟨ar,har⟩:∃ ar,arZ t.kind=ar:=⟨_,rfl⟩
 have hin:=arZ_in t.kind
 cases ha:decide (ar<1) with
 | true =>
  have HE:=Ak (show leafT t=true from decide_eq_true (by have:=of_decide_eq_true ha;unfold nK;rw [har];split <;> omega))
  refine lf1_region _ w.heap.size p t ar HX.out har ha ?_
  intro w2 hch
  have HB2:=Ak (below_then HB.out HB.out.size (hch.below (fun _ h=>h.elim False.elim False.elim) (Nat.le_refl _)))
  clear hch
  go_wp2
  go_ret
  rw [HE.out]
  exact ⟨rfl,HB2.out⟩
 | false =>
  obtain ⟨d,hd⟩:∃ d,decide ((t.kids.length:Int)<ar)=d:=⟨_,rfl⟩
  have HE:=Ak (show leafT t=d by
   have h1:=of_decide_eq_false ha
   rw [← hd]
   unfold leafT nK
   rw [har]
   by_cases h:(t.kids.length:Int)<ar
   ·rw [if_pos h,decide_eq_true h];rfl
   ·rw [if_neg h,decide_eq_false h,decide_eq_false];omega)
  refine lf0_region _ w.heap.size p t ar d HX.out har ha hd ?_
  intro w2 hch
  have HB2:=Ak (below_then HB.out HB.out.size (hch.below (fun _ h=>h.elim False.elim False.elim) (Nat.le_refl _)))
  clear hch
  go_wp2
  go_ret
  rw [HE.out]
  exact ⟨rfl,HB2.out⟩
end Go.Proofs.Ytdboloabpjmgaaa

namespace Go.Proofs.Ytdboloabpjmgaaa
open Go.RowKit Go.Proofs.YtdboloabpjmgaaaW.PrintWords Go.RegionInvYtdboloabpjmgaaa Go.RegionEYtdboloabpjmgaaa

set_option maxHeartbeats 2000000 in
theorem plus0_calls (S:Nat→Prop) (A:Option Addr) (c:Nat) (l:Lv) (w:World) (hin:LvS w S A c l):Calls Try.prog 101 #[.int .i64 0,lvV A c l] w (LvGot w S (owP l)):=by
 have hin2:LvS w (fun b=>S b∧b<w.heap.size) A c l:=hin.mono fun b h1 h2=>⟨h1,h2⟩
 have HIN:=Ak hin2
 have hl9:l.kids.length≤9223372036854775807:=by have:=hin.len;omega
 clear hin hin2
 unfold lvV
 go_enter Try.func101,Try.ntmps101
 go_wp2_with (first
  | (go_at_call 118;go_must (refine (own_calls (fun b=>S b∧b<w.heap.size) A c l _ (HIN.out.later (two_boxes _ _))).mono ?_;rintro e w2 ⟨A2,c2,rfl,hl2,hb⟩;have HL2:=Ak (got_two hl2);have HB2:=Ak (below_then (two_boxes _ _) (two_boxes _ _).size hb);have HX2:=Ak (blk_below (box1 w _ _) hb);have hsz2:=blk_lt HX2.out;obtain ⟨p0,p1,p2,-,-,-⟩:=row3 (blk_below (box0 w _ _) hb);obtain ⟨q0,q1,q2,z0,z1,z2⟩:=row3 HX2.out;obtain ⟨r0,r1,r2,y0,y1,y2⟩:=row3 (blk_alloc HX2.out (.cells #[.int .i64 (owP l).kind,.int .i64 (owP l).num,.slice A2 (owP l).kids.length c2] 25 (0,0)));obtain ⟨s0,s1,s2,-,-,-⟩:=row3 (blk_alloc (blk_below (box0 w _ _) hb) (.cells #[.int .i64 (owP l).kind,.int .i64 (owP l).num,.slice A2 (owP l).kids.length c2] 25 (0,0)));clear hb hl2;simp only [lvV])))
 refine bodyPost_ret (results_c rfl _ _ (w.heap.size+1) 25 #[.int .i64 (owP l).kind,.int .i64 (owP l).num,.slice A2 (owP l).kids.length c2] (0,0) _ rfl (set3 HX2.out) Try.underlying25 rfl (by kernel_rfl)) rfl ?_
 have hch:=chg_set3 w2 (w.heap.size+1) (.int .i64 (owP l).kind) (.int .i64 (owP l).num) (.slice A2 (owP l).kids.length c2)
 exact ⟨A2,c2,rfl,got_all (got_chg HL2.out hch),Chg.trans_below HB2.out hch (fun _ e=>by omega) HB2.out.size⟩
set_option maxHeartbeats 2000000 in
theorem ownLevel_calls (S:Nat→Prop) (A:Option Addr) (c:Nat) (l:Lv) (w:World) (hin:LvS w S A c l):Calls Try.prog 70 #[lvV A c l] w (LvGot w S (owP l)):=by
 have hin2:LvS w (fun b=>S b∧b<w.heap.size) A c l:=hin.mono fun b h1 h2=>⟨h1,h2⟩
 have HIN:=Ak hin2
 clear hin hin2
 unfold lvV
 go_enter Try.func70,Try.ntmps70
 go_wp2_with (first
  | (go_at_call 101;go_must (refine (plus0_calls (fun b=>S b∧b<w.heap.size) A c l _ (HIN.out.later (two_boxes _ _))).mono ?_;rintro e w2 ⟨A2,c2,rfl,hl2,hb⟩;have HL2:=Ak (got_two hl2);have HB2:=Ak (below_then (two_boxes _ _) (two_boxes _ _).size hb);have HX2:=Ak (blk_below (box1 w _ _) hb);have hsz2:=blk_lt HX2.out;obtain ⟨q0,q1,q2,z0,z1,z2⟩:=row3 HX2.out;clear hb hl2;simp only [lvV])))
 refine bodyPost_ret (results_c rfl _ _ (w.heap.size+1) 25 #[.int .i64 (owP l).kind,.int .i64 (owP l).num,.slice A2 (owP l).kids.length c2] (0,0) _ rfl (set3 HX2.out) Try.underlying25 rfl (by kernel_rfl)) rfl ?_
 have hch:=chg_set3 w2 (w.heap.size+1) (.int .i64 (owP l).kind) (.int .i64 (owP l).num) (.slice A2 (owP l).kids.length c2)
 exact ⟨A2,c2,rfl,got_all (got_chg HL2.out hch),Chg.trans_below HB2.out hch (fun _ e=>by omega) HB2.out.size⟩
end Go.Proofs.Ytdboloabpjmgaaa

namespace Go.Proofs.Ytdboloabpjmgaaa
open Go.RowKit Go.Proofs.YtdboloabpjmgaaaW.PrintWords Go.RegionInvYtdboloabpjmgaaa

abbrev SetL (S:Nat→Prop) (lo:Nat) (V:Value):Nat→Prop:=fun b=>S b∨(lo≤b∧V.ownBlock≠some b)
def KidsL (w:World) (S:Nat→Prop) (lo:Nat) (V:Value) (xs:List Lv):Prop:=
 ∃ (cells:List Value) (fA:Nat→Option Addr) (fc:Nat→Nat),w.ownsRow lo 25 3 V xs.length cells ∧
  ∀ (i:Nat) (x:Lv),xs[i]?=some x→cells[i * 3]?=some (.int .i64 x.kind)∧cells[i * 3+1]?=some (.int .i64 x.num)∧cells[i * 3+2]?=some (.slice (fA i) x.kids.length (fc i))∧LvS w (SetL S lo V) (fA i) (fc i) x
theorem KidsL.nil (w:World) (S:Nat→Prop) (lo:Nat):KidsL w S lo (.slice none 0 0) []:=⟨[],fun _=>none,fun _=>0,own_nil _ _ _ _,fun i x h=>by simp at h⟩
theorem KidsL.later {w w':World} {S:Nat→Prop} {lo:Nat} {V:Value} {xs:List Lv} (h:KidsL w S lo V xs) (hb:Below w.heap.size w w'):KidsL w' S lo V xs:=by
 obtain ⟨cells,fA,fc,ho,hk⟩:=h
 exact ⟨cells,fA,fc,pw_own_below ho hb,fun i x hx=>⟨(hk i x hx).1,(hk i x hx).2.1,(hk i x hx).2.2.1,(hk i x hx).2.2.2.later hb⟩⟩
theorem KidsL.other {w w':World} {S:Nat→Prop} {lo g:Nat} {V:Value} {xs:List Lv} (h:KidsL w S lo V xs) (hc:Chg (fun k=>k=g) w w') (hg:g<lo) (hS:¬ S g):KidsL w' S lo V xs:=by
 obtain ⟨cells,fA,fc,ho,hk⟩:=h
 refine ⟨cells,fA,fc,ownsRow_same ho fun k hk=>hc.block k (own_lt ho k hk) (by have:=own_base ho k hk;omega),fun i x hx=>?_⟩
 obtain ⟨h1,h2,h3,h4⟩:=hk i x hx
 exact ⟨h1,h2,h3,h4.same fun k hs hz=>hc.block k hz (fun e=>by rcases hs with hs | hs;exact hS (e ▸ hs);omega)⟩
theorem setL_keep {w w1:World} {S:Nat→Prop} {lo:Nat} {V v1:Value} {e:TypeId} {size n:Nat} {cells:List Value} (ho:w.ownsRow lo e size V n cells) (hS:∀ b,S b→b<lo) (hat:v1.ownBlock=V.ownBlock∨∃ b,v1.ownBlock=some b∧w.heap.size≤b) (hg:w.grownBy w1 V.ownBlock) :
  (∀ k,SetL S lo V k→k<w.heap.size→SetL S lo v1 k)∧∀ k,SetL S lo V k→k<w.heap.size→w1.heap[k]?=w.heap[k]?:=by
 refine ⟨fun k hk hz=>hk.imp id fun h=>⟨h.1,?_⟩,fun k hk hz=>hg.block k hz fun e=>?_⟩
 ·rcases hat with e | ⟨b,e,hb⟩
  ·rw [e];exact h.2
  ·rw [e];intro h';injection h' with h';omega
 ·rcases hk with hk | hk
  ·have:=hS k hk
   have:=own_base ho k e.symm
   omega
  ·exact hk.2 e.symm
theorem KidsL.push {w w1:World} {S:Nat→Prop} {lo:Nat} {V v1:Value} {xs:List Lv} {x:Lv} {A:Option Addr} {c:Nat} {cells:List Value} {fA:Nat→Option Addr} {fc:Nat→Nat} (hS:∀ b,S b→b<lo) (ho:w.ownsRow lo 25 3 V xs.length cells)
  (hk:∀ (i:Nat) (x:Lv),xs[i]?=some x→cells[i * 3]?=some (.int .i64 x.kind)∧cells[i * 3+1]?=some (.int .i64 x.num)∧cells[i * 3+2]?=some (.slice (fA i) x.kids.length (fc i))∧LvS w (SetL S lo V) (fA i) (fc i) x)
  (hx:LvS w (SetL S lo V) A c x) (ho1:w1.ownsRow lo 25 3 v1 (xs.length+1) (cells ++ [.int .i64 x.kind,.int .i64 x.num,.slice A x.kids.length c]))
  (hg:w.grownBy w1 V.ownBlock) (hat:v1.ownBlock=V.ownBlock∨∃ b,v1.ownBlock=some b∧w.heap.size≤b):KidsL w1 S lo v1 (xs ++ [x]):=by
 obtain ⟨k1,k2⟩:=setL_keep ho hS hat hg
 have keep:∀ {A:Option Addr} {c:Nat} {y:Lv},LvS w (SetL S lo V) A c y→LvS w1 (SetL S lo v1) A c y:=by
  intro A c y h
  have h1:LvS w (fun b=>SetL S lo V b∧b<w.heap.size) A c y:=h.mono fun k hk hz=>⟨hk,hz⟩
  exact (h1.same fun k hs hz=>k2 k hs.1 hz).mono fun k hs _=>k1 k hs.1 hs.2
 have hl:=own_len ho
 refine ⟨_,fun i=>if i=xs.length then A else fA i,fun i=>if i=xs.length then c else fc i,by simpa using ho1,fun i y hy=>?_⟩
 rcases Nat.lt_or_ge i xs.length with hi | hi
 ·rw [List.getElem?_append_left hi] at hy
  obtain ⟨h1,h2,h3,h4⟩:=hk i y hy
  rw [List.getElem?_append_left (by omega),List.getElem?_append_left (by omega),List.getElem?_append_left (by omega)]
  simp only [if_neg (show ¬ i=xs.length by omega)]
  exact ⟨h1,h2,h3,keep h4⟩
 ·rw [List.getElem?_append_right hi] at hy
  have hi2:i=xs.length:=by
   cases e:i - xs.length with
   | zero=>omega
   | succ j=>rw [e] at hy;simp at hy
  subst hi2
  obtain rfl:x=y:=by simpa using hy
  rw [List.getElem?_append_right (by omega),List.getElem?_append_right (by omega),List.getElem?_append_right (by omega)]
  simp only [↓reduceIte]
  rw [show xs.length * 3 - cells.length=0 by omega,show xs.length * 3+1 - cells.length=1 by omega,show xs.length * 3+2 - cells.length=2 by omega]
  exact ⟨rfl,rfl,rfl,keep hx⟩
theorem own_max {w:World} {lo n:Nat} {e:TypeId} {size:Nat} {A:Option Addr} {c:Nat} {xs:List Value} (ho:w.ownsRow lo e size (.slice A n c) n xs):c≤9223372036854775807:=by
 rcases ho.2 with ⟨h1,_⟩ | ⟨g,cap,cur,h1,_,_,h2,h3,_⟩
 ·injection h1 with _ _ h1;omega
 ·injection h1 with _ _ h1
  subst h1
  simp only [maxLen] at h3
  omega
theorem KidsL.level {w:World} {S:Nat→Prop} {lo:Nat} {V:Value} {xs:List Lv} (h:KidsL w S lo V xs):∃ A c,V=.slice A xs.length c∧LvS w (fun b=>S b∨lo≤b) A c (.mk 0 0 xs):=by
 obtain ⟨cells,fA,fc,ho,hk⟩:=h
 obtain ⟨A,c,rfl⟩:=own_slice ho
 refine ⟨A,c,rfl,.mk fA fc (own_cap ho) (own_max ho) (fun i x hx=>?_) (fun i x hx=>(hk i x hx).2.2.2.mono fun b hb _=>hb.imp id And.left)⟩
 have hi:i<xs.length:=by
  rcases Nat.lt_or_ge i xs.length with h | h
  ·exact h
  ·rw [List.getElem?_eq_none h] at hx;cases hx
 obtain ⟨g,cap,hv,hb,_⟩:=ho.form (by omega)
 obtain ⟨h1,h2,h3,_⟩:=hk i x hx
 have hv':=hv
 injection hv with hA
 exact ⟨⟨g,0,none⟩,hA,.inr hb,rfl,ho.cells (g:=g) (by rw [hv'];rfl) _ _ h1,ho.cells (g:=g) (by rw [hv'];rfl) _ _ h2,ho.cells (g:=g) (by rw [hv'];rfl) _ _ h3⟩
def KidsT (w:World) (S:Nat→Prop) (lo:Nat) (V:Value) (xs:List Tm):Prop:=
 ∃ (cells:List Value) (q:Nat→Pl),w.ownsRow lo 28 8 V xs.length cells ∧
  ∀ (i:Nat) (x:Tm),xs[i]?=some x→(∀ (j:Nat) (v:Value),(tmC (q i) x)[j]?=some v→cells[i * 8+j]?=some v)∧TmS w (SetL S lo V) (q i) x
theorem KidsT.nil (w:World) (S:Nat→Prop) (lo:Nat):KidsT w S lo (.slice none 0 0) []:=⟨[],fun _=>default,own_nil _ _ _ _,fun i x h=>by simp at h⟩
theorem KidsT.later {w w':World} {S:Nat→Prop} {lo:Nat} {V:Value} {xs:List Tm} (h:KidsT w S lo V xs) (hb:Below w.heap.size w w'):KidsT w' S lo V xs:=by
 obtain ⟨cells,q,ho,hk⟩:=h
 exact ⟨cells,q,pw_own_below ho hb,fun i x hx=>⟨(hk i x hx).1,(hk i x hx).2.later hb⟩⟩
theorem KidsT.other {w w':World} {S:Nat→Prop} {lo g:Nat} {V:Value} {xs:List Tm} (h:KidsT w S lo V xs) (hc:Chg (fun k=>k=g) w w') (hg:g<lo) (hS:¬ S g):KidsT w' S lo V xs:=by
 obtain ⟨cells,q,ho,hk⟩:=h
 refine ⟨cells,q,ownsRow_same ho fun k hk=>hc.block k (own_lt ho k hk) (by have:=own_base ho k hk;omega),fun i x hx=>⟨(hk i x hx).1,(hk i x hx).2.same fun k hs hz=>hc.block k hz (fun e=>by rcases hs with hs | hs;exact hS (e ▸ hs);omega)⟩⟩
theorem KidsT.push {w w1:World} {S:Nat→Prop} {lo:Nat} {V v1:Value} {xs:List Tm} {x:Tm} {p:Pl} {cells:List Value} {q:Nat→Pl} (hS:∀ b,S b→b<lo) (ho:w.ownsRow lo 28 8 V xs.length cells)
  (hk:∀ (i:Nat) (x:Tm),xs[i]?=some x→(∀ (j:Nat) (v:Value),(tmC (q i) x)[j]?=some v→cells[i * 8+j]?=some v)∧TmS w (SetL S lo V) (q i) x)
  (hx:TmS w (SetL S lo V) p x) (ho1:w1.ownsRow lo 28 8 v1 (xs.length+1) (cells ++ tmC p x))
  (hg:w.grownBy w1 V.ownBlock) (hat:v1.ownBlock=V.ownBlock∨∃ b,v1.ownBlock=some b∧w.heap.size≤b):KidsT w1 S lo v1 (xs ++ [x]):=by
 obtain ⟨k1,k2⟩:=setL_keep ho hS hat hg
 have keep:∀ {p:Pl} {y:Tm},TmS w (SetL S lo V) p y→TmS w1 (SetL S lo v1) p y:=by
  intro p y h
  have h1:TmS w (fun b=>SetL S lo V b∧b<w.heap.size) p y:=h.mono fun k hk hz=>⟨hk,hz⟩
  exact (h1.same fun k hs hz=>k2 k hs.1 hz).mono fun k hs _=>k1 k hs.1 hs.2
 have hl:=own_len ho
 refine ⟨_,fun i=>if i=xs.length then p else q i,by simpa using ho1,fun i y hy=>?_⟩
 rcases Nat.lt_or_ge i xs.length with hi | hi
 ·rw [List.getElem?_append_left hi] at hy
  obtain ⟨h1,h2⟩:=hk i y hy
  simp only [if_neg (show ¬ i=xs.length by omega)]
  refine ⟨fun j v hv=>?_,keep h2⟩
  have hj:j<8:=by have:=(List.getElem?_eq_some_iff.1 hv).1;rwa [tmC_len] at this
  rw [List.getElem?_append_left (by omega)]
  exact h1 j v hv
 ·rw [List.getElem?_append_right hi] at hy
  have hi2:i=xs.length:=by
   cases e:i - xs.length with
   | zero=>omega
   | succ j=>rw [e] at hy;simp at hy
  subst hi2
  obtain rfl:x=y:=by simpa using hy
  simp only [↓reduceIte]
  refine ⟨fun j v hv=>?_,keep hx⟩
  rw [List.getElem?_append_right (by omega),show xs.length * 8+j - cells.length=j by omega]
  exact hv
theorem KidsT.term {w:World} {S:Nat→Prop} {lo:Nat} {V:Value} {xs:List Tm} (h:KidsT w S lo V xs):∃ K e,V=.slice K xs.length e∧∀ (k n:Int) (nm:ByteArray),Fit n nm []→TmS w (fun b=>S b∨lo≤b) ⟨none,0,none,0,K,e⟩ (.mk k n nm (.mk 0 0 []) [] xs):=by
 obtain ⟨cells,q,ho,hk⟩:=h
 obtain ⟨K,e,rfl⟩:=own_slice ho
 refine ⟨K,e,rfl,fun k n nm hf=>.mk q (LvS.leaf _ _ _ _) (LvS.leaf _ _ _ _) (own_cap ho) (own_max ho) hf (fun i x hx=>?_) (fun i x hx=>(hk i x hx).2.mono fun b hb _=>hb.imp id And.left)⟩
 have hi:i<xs.length:=by
  rcases Nat.lt_or_ge i xs.length with h | h
  ·exact h
  ·rw [List.getElem?_eq_none h] at hx;cases hx
 obtain ⟨g,cap,hv,hb,_⟩:=ho.form (by omega)
 have hv':=hv
 injection hv with hA
 refine ⟨g,0,hA,.inr hb,fun j v hjv=>?_⟩
 have:=ho.cells (g:=g) (by rw [hv'];rfl) _ _ ((hk i x hx).1 j v hjv)
 rwa [add_flat,← Nat.add_assoc] at this
def TmGot (w:World) (S:Nat→Prop) (t:Tm) (e:Ending) (w':World):Prop:=∃ p,e=.returned (tmV p t)∧TmS w' (fun b=>S b∨w.heap.size≤b) p t∧Below w.heap.size w w'
theorem set8 {w:World} {g:Nat} {x0 x1 x2 x3 x4 x5 x6 x7 a0 a1 a2 a3 a4 a5 a6 a7:Value} {t:TypeId} (h:w.heap[g]?=some (.cells #[x0,x1,x2,x3,x4,x5,x6,x7] t (0,0))) :
  ((((((((w.setCell ⟨g,0,none⟩ a0).setCell ⟨g,1,none⟩ a1).setCell ⟨g,2,none⟩ a2).setCell ⟨g,3,none⟩ a3).setCell ⟨g,4,none⟩ a4).setCell ⟨g,5,none⟩ a5).setCell ⟨g,6,none⟩ a6).setCell ⟨g,7,none⟩ a7).heap[g]?=some (.cells #[a0,a1,a2,a3,a4,a5,a6,a7] t (0,0)):=by
 have h0:(w.setCell ⟨g,0,none⟩ a0).heap[g]?=some (.cells #[a0,x1,x2,x3,x4,x5,x6,x7] t (0,0)):=blk_put h 0 a0 rfl
 have h1:((w.setCell ⟨g,0,none⟩ a0).setCell ⟨g,1,none⟩ a1).heap[g]?=some (.cells #[a0,a1,x2,x3,x4,x5,x6,x7] t (0,0)):=blk_put h0 1 a1 rfl
 have h2:(((w.setCell ⟨g,0,none⟩ a0).setCell ⟨g,1,none⟩ a1).setCell ⟨g,2,none⟩ a2).heap[g]?=some (.cells #[a0,a1,a2,x3,x4,x5,x6,x7] t (0,0)):=blk_put h1 2 a2 rfl
 have h3:((((w.setCell ⟨g,0,none⟩ a0).setCell ⟨g,1,none⟩ a1).setCell ⟨g,2,none⟩ a2).setCell ⟨g,3,none⟩ a3).heap[g]?=some (.cells #[a0,a1,a2,a3,x4,x5,x6,x7] t (0,0)):=blk_put h2 3 a3 rfl
 have h4:(((((w.setCell ⟨g,0,none⟩ a0).setCell ⟨g,1,none⟩ a1).setCell ⟨g,2,none⟩ a2).setCell ⟨g,3,none⟩ a3).setCell ⟨g,4,none⟩ a4).heap[g]?=some (.cells #[a0,a1,a2,a3,a4,x5,x6,x7] t (0,0)):=blk_put h3 4 a4 rfl
 have h5:((((((w.setCell ⟨g,0,none⟩ a0).setCell ⟨g,1,none⟩ a1).setCell ⟨g,2,none⟩ a2).setCell ⟨g,3,none⟩ a3).setCell ⟨g,4,none⟩ a4).setCell ⟨g,5,none⟩ a5).heap[g]?=some (.cells #[a0,a1,a2,a3,a4,a5,x6,x7] t (0,0)):=blk_put h4 5 a5 rfl
 have h6:(((((((w.setCell ⟨g,0,none⟩ a0).setCell ⟨g,1,none⟩ a1).setCell ⟨g,2,none⟩ a2).setCell ⟨g,3,none⟩ a3).setCell ⟨g,4,none⟩ a4).setCell ⟨g,5,none⟩ a5).setCell ⟨g,6,none⟩ a6).heap[g]?=some (.cells #[a0,a1,a2,a3,a4,a5,a6,x7] t (0,0)):=blk_put h5 6 a6 rfl
 have h7:((((((((w.setCell ⟨g,0,none⟩ a0).setCell ⟨g,1,none⟩ a1).setCell ⟨g,2,none⟩ a2).setCell ⟨g,3,none⟩ a3).setCell ⟨g,4,none⟩ a4).setCell ⟨g,5,none⟩ a5).setCell ⟨g,6,none⟩ a6).setCell ⟨g,7,none⟩ a7).heap[g]?=some (.cells #[a0,a1,a2,a3,a4,a5,a6,a7] t (0,0)):=blk_put h6 7 a7 rfl
 exact h7
theorem chg_set3' (w:World) (g i j k:Nat) (a b c:Value):Chg (fun k=>k=g) w (((w.setCell ⟨g,i,none⟩ a).setCell ⟨g,j,none⟩ b).setCell ⟨g,k,none⟩ c):=chg_trans (chg_trans (chg_set _ _ _ _) (chg_set _ _ _ _)) (chg_set _ _ _ _)
theorem chg_set8 (w:World) (g:Nat) (a0 a1 a2 a3 a4 a5 a6 a7:Value):Chg (fun k=>k=g) w ((((((((w.setCell ⟨g,0,none⟩ a0).setCell ⟨g,1,none⟩ a1).setCell ⟨g,2,none⟩ a2).setCell ⟨g,3,none⟩ a3).setCell ⟨g,4,none⟩ a4).setCell ⟨g,5,none⟩ a5).setCell ⟨g,6,none⟩ a6).setCell ⟨g,7,none⟩ a7):=
 chg_trans (chg_trans (chg_trans (chg_trans (chg_trans (chg_trans (chg_trans (chg_set _ _ _ _) (chg_set _ _ _ _)) (chg_set _ _ _ _)) (chg_set _ _ _ _)) (chg_set _ _ _ _)) (chg_set _ _ _ _)) (chg_set _ _ _ _)) (chg_set _ _ _ _)
end Go.Proofs.Ytdboloabpjmgaaa

namespace Go.Proofs.Ytdboloabpjmgaaa
open Go.RowKit Go.Proofs.YtdboloabpjmgaaaW.PrintWords Go.RegionInvYtdboloabpjmgaaa Go.RegionEYtdboloabpjmgaaa

abbrev noName:ByteArray:=⟨#[]⟩
def nodeP (t:Tm):Tm:=.mk t.kind (if t.kind=1 then t.num else 0) (if t.kind=7 then t.name else noName) (if t.kind=2 then owP t.lv else .mk 0 0 []) (if t.kind=7 then t.ls.map owP else []) []
abbrev outN (k n:Int) (nm:ByteArray) (l:Lv) (A:Option Addr) (c:Nat) (V:Value):Obj:=.cells #[.int .i64 k,.int .i64 n,.string nm,.int .i64 l.kind,.int .i64 l.num,.slice A l.kids.length c,V,.slice none 0 0] 28 (0,0)
theorem row8c {w:World} {g:Nat} {x0 x1 x2 x3 x4 x5 x6 x7:Value} {t:TypeId} (h:w.heap[g]?=some (.cells #[x0,x1,x2,x3,x4,x5,x6,x7] t (0,0))) :
  w.cell? ⟨g,0,none⟩=some x0∧w.cell? ⟨g,1,none⟩=some x1∧w.cell? ⟨g,2,none⟩=some x2∧w.cell? ⟨g,3,none⟩=some x3∧w.cell? ⟨g,4,none⟩=some x4∧w.cell? ⟨g,5,none⟩=some x5∧w.cell? ⟨g,6,none⟩=some x6∧w.cell? ⟨g,7,none⟩=some x7∧w.frozen? ⟨g,0,none⟩=false∧w.frozen? ⟨g,1,none⟩=false∧w.frozen? ⟨g,2,none⟩=false∧w.frozen? ⟨g,3,none⟩=false∧w.frozen? ⟨g,4,none⟩=false∧w.frozen? ⟨g,5,none⟩=false∧w.frozen? ⟨g,6,none⟩=false∧w.frozen? ⟨g,7,none⟩=false:=by
 refine ⟨?_,?_,?_,?_,?_,?_,?_,?_,blk_frozen h 0,blk_frozen h 1,blk_frozen h 2,blk_frozen h 3,blk_frozen h 4,blk_frozen h 5,blk_frozen h 6,blk_frozen h 7⟩ <;> (rw [cell_of_row _ _ _ _ _ _ h];rfl)
structure NdB (w wr:World) (ob:Obj):Prop where
 o:wr.heap[w.heap.size+1+1]?=some ob
 res:wr.heap[w.heap.size+1]?=some (.cells #[.int .i64 0,.int .i64 0,.string noName,.int .i64 0,.int .i64 0,.slice none 0 0,.slice none 0 0,.slice none 0 0] 28 (0,0))
 bel:Below w.heap.size w wr
structure NdIn (w w5:World) (S:Nat→Prop) (k:Int) (nm:ByteArray) (V:Value) (xs:List Lv) (A5:Option Addr) (c5:Nat) (x:Lv):Prop extends NdB w w5 (outN k 0 nm (.mk 0 0 []) none 0 V) where
 kids:KidsL w5 S (w.heap.size+3) V xs
 kid:LvS w5 (SetL S (w.heap.size+3) V) A5 c5 x
theorem NdIn.cell {w w5:World} {S:Nat→Prop} {k:Int} {nm:ByteArray} {V:Value} {xs:List Lv} {A5:Option Addr} {c5:Nat} {x:Lv} (h:NdIn w w5 S k nm V xs A5 c5 x):w5.cell? ⟨w.heap.size+1+1,6,none⟩=some V:=by
 rw [cell_of_row _ _ _ _ _ _ h.o];rfl
theorem NdIn.cell2 {w w5:World} {S:Nat→Prop} {k:Int} {nm:ByteArray} {V:Value} {xs:List Lv} {A5:Option Addr} {c5:Nat} {x:Lv} (h:NdIn w w5 S k nm V xs A5 c5 x) (ob:Obj):(w5.alloc ob).cell? ⟨w.heap.size+1+1,6,none⟩=some V:=by
 rw [cell_of_row _ _ _ _ _ _ (blk_alloc h.o ob)];rfl
theorem NdIn.drew {w w5:World} {S:Nat→Prop} {k:Int} {nm:ByteArray} {V:Value} {xs:List Lv} {A5:Option Addr} {c5:Nat} {x:Lv} (h:NdIn w w5 S k nm V xs A5 c5 x):NdIn w w5.drew S k nm V xs A5 c5 x:=
 ⟨⟨h.o,h.res,below_drew h.bel⟩,h.kids.later (below_drew (Below.refl _ _)),h.kid.later (below_drew (Below.refl _ _))⟩
theorem nd_base {w w5:World} {ob:Obj} (h:NdB w w5 ob):w.heap.size+3≤w5.heap.size:=by have:=blk_lt h.o;omega
theorem nd_in {w wr W3 w5:World} {S:Nat→Prop} {k:Int} {nm:ByteArray} {V:Value} {xs:List Lv} {A5:Option Addr} {c5:Nat} {x:Lv} (h:NdB w wr (outN k 0 nm (.mk 0 0 []) none 0 V)) (hk:KidsL wr S (w.heap.size+3) V xs)
  (hb3:Below wr.heap.size wr W3) (hb5:Below W3.heap.size W3 w5) (hl:LvS w5 (fun b=>S b∨W3.heap.size≤b) A5 c5 x):NdIn w w5 S k nm V xs A5 c5 x:=by
 have hbb:Below wr.heap.size wr w5:=below_then hb3 hb3.size hb5
 have hlt:=blk_lt h.o
 refine ⟨⟨blk_below h.o hbb,blk_below h.res hbb,below_then h.bel h.bel.size hbb⟩,hk.later hbb,hl.mono fun b hb' _=>hb'.imp id fun hb'=>⟨by have:=hb3.size;omega,fun e=>?_⟩⟩
 obtain ⟨cells,fA,fc,hown,_⟩:=hk
 have:=own_lt hown b e
 have:=hb3.size
 omega
structure NdOut (w w6:World) (S:Nat→Prop) (k:Int) (nm:ByteArray) (V V6:Value) (xs:List Lv):Prop extends NdB w w6 (outN k 0 nm (.mk 0 0 []) none 0 V) where
 kids:KidsL w6 S (w.heap.size+3) V6 xs
theorem NdOut.cell {w w6:World} {S:Nat→Prop} {k:Int} {nm:ByteArray} {V V6:Value} {xs:List Lv} (h:NdOut w w6 S k nm V V6 xs):w6.cell? ⟨w.heap.size+1+1,6,none⟩=some V:=by
 rw [cell_of_row _ _ _ _ _ _ h.o];rfl
theorem nd_push {w w5 w6:World} {S:Nat→Prop} {k:Int} {nm:ByteArray} {V v6:Value} {xs:List Lv} {A5:Option Addr} {c5:Nat} {x:Lv} {cells:List Value} {fA:Nat→Option Addr} {fc:Nat→Nat} (hS:∀ b,S b→b<w.heap.size) (h:NdIn w w5 S k nm V xs A5 c5 x)
  (ho:w5.ownsRow (w.heap.size+3) 25 3 V xs.length cells)
  (hk:∀ (i:Nat) (x:Lv),xs[i]?=some x→cells[i * 3]?=some (.int .i64 x.kind)∧cells[i * 3+1]?=some (.int .i64 x.num)∧cells[i * 3+2]?=some (.slice (fA i) x.kids.length (fc i))∧LvS w5 (SetL S (w.heap.size+3) V) (fA i) (fc i) x)
  (ho1:w6.ownsRow (w.heap.size+3) 25 3 v6 (xs.length+1) (cells ++ [.int .i64 x.kind,.int .i64 x.num,.slice A5 x.kids.length c5])) (hg:w5.grownBy w6 V.ownBlock) (hat:v6.ownBlock=V.ownBlock∨∃ b,v6.ownBlock=some b∧w5.heap.size≤b):NdOut w w6 S k nm V v6 (xs ++ [x]):=by
 have far:∀ k,k<w.heap.size+3→some k≠V.ownBlock:=fun k hk e=>by have:=own_base ho k e.symm;omega
 refine ⟨⟨?_,?_,⟨hg.os.trans h.bel.os,hg.tape.trans h.bel.tape,hg.output.trans h.bel.output,Nat.le_trans h.bel.size hg.size,fun i hi=>?_⟩⟩,KidsL.push (fun b hb=>by have:=hS b hb;omega) ho hk h.kid ho1 hg hat⟩
 ·rw [hg.block _ (blk_lt h.o) (far _ (by omega))];exact h.o
 ·rw [hg.block _ (blk_lt h.res) (far _ (by omega))];exact h.res
 ·rw [hg.block i (Nat.lt_of_lt_of_le hi h.bel.size) (far i (by omega))];exact h.bel.block i hi
theorem nd_fin {w w6:World} {S:Nat→Prop} {k:Int} {nm:ByteArray} {V V6:Value} {xs ys:List Lv} (hS:∀ b,S b→b<w.heap.size) (h:NdOut w w6 S k nm V V6 xs) (e:ys=xs) :
  ∃ v5,Aside0 (NdB w (w6.setCell ⟨w.heap.size+1+1,6,none⟩ V6) (outN k 0 nm (.mk 0 0 []) none 0 v5))∧Aside0 (KidsL (w6.setCell ⟨w.heap.size+1+1,6,none⟩ V6) S (w.heap.size+3) v5 ys):=by
 subst e
 have hch:=chg_set w6 (w.heap.size+1+1) 6 V6
 exact ⟨V6,⟨⟨blk_put h.o 6 V6 rfl,(hch.block _ (blk_lt h.res) (by omega)).trans h.res,Chg.trans_below h.bel hch (fun _ e=>by omega) h.bel.size⟩⟩,⟨h.kids.other hch (by omega) (fun h=>by have:=hS _ h;omega)⟩⟩
set_option maxRecDepth 4000 in
set_option maxHeartbeats 16000000 in
theorem node_calls (S:Nat→Prop) (t:Tm) (p:Pl) (w:World) (hin:TmS w S p t):Calls Try.prog 63 #[tmV p t] w (TmGot w S (nodeP t)):=by
 obtain ⟨pA,pc,pB,pd,pK,pe⟩:=p
 have hin2:TmS w (fun b=>S b∧b<w.heap.size) ⟨pA,pc,pB,pd,pK,pe⟩ t:=hin.mono fun b h1 h2=>⟨h1,h2⟩
 have HIN:=Ak hin2
 have HS:=Ak (show ∀ b,(S b∧b<w.heap.size)→b<w.heap.size from fun b h=>h.2)
 have hll:=hin.lv.len
 have hln:=hin.ls.len
 clear hin hin2
 obtain ⟨W,hW⟩:∃ W,W=((w.alloc (tmO ⟨pA,pc,pB,pd,pK,pe⟩ t)).alloc (.cells #[.int .i64 0,.int .i64 0,.string ⟨#[]⟩,.int .i64 0,.int .i64 0,.slice none 0 0,.slice none 0 0,.slice none 0 0] 28 (0,0))).alloc (.cells #[.int .i64 t.kind,.int .i64 0,.string ⟨#[]⟩,.int .i64 0,.int .i64 0,.slice none 0 0,.slice none 0 0,.slice none 0 0] 28 (0,0)):=⟨_,rfl⟩
 have hX:W.heap[w.heap.size]?=some (tmO ⟨pA,pc,pB,pd,pK,pe⟩ t):=by rw [hW];exact blk_alloc (box0 w _ _) _
 have hst:NdB w W (outN t.kind 0 noName (.mk 0 0 []) none 0 (.slice none 0 0)):=by
  rw [hW]
  refine ⟨?_,blk_alloc (box1 w _ _) _,below_alloc (below_alloc (below_alloc (Below.refl _ _) _) _) _⟩
  have:=blk_new ((w.alloc (tmO ⟨pA,pc,pB,pd,pK,pe⟩ t)).alloc (.cells #[.int .i64 0,.int .i64 0,.string noName,.int .i64 0,.int .i64 0,.slice none 0 0,.slice none 0 0,.slice none 0 0] 28 (0,0))) (outN t.kind 0 noName (.mk 0 0 []) none 0 (.slice none 0 0))
  simp only [World.size_alloc] at this
  exact this
 have HX:=Ak hX
 have HST:=Ak hst
 unfold tmV
 go_enter Try.func63,Try.ntmps63
 go_upto_region 2 with (fail)
 rw [← hW]
 clear hW hX hst
 obtain ⟨c0,c1,c2,c3,c4,c5,c6,c7⟩:=row8 HX.out
 dsimp only at c5 c6 c7 hll hln
 obtain ⟨r0,r1,r2,r3,r4,r5,r6,r7,f0,f1,f2,f3,f4,f5,f6,f7⟩:=row8c HST.out.o
 have hlev:t.lv.kids.length≤9223372036854775807:=by omega
 obtain ⟨n,hn⟩:∃ n,n=t.ls.length:=⟨_,rfl⟩
 have hn40:n * 40≤140737488355328:=by rw [hn];exact HIN.out.fit.2.2
 have hn9:n≤9223372036854775807:=by rw [hn];exact Nat.le_trans hln.1 hln.2
 rw [← hn] at c6
 rw [← hn]
 have HN:=Ak hn
 clear hn hll hln
 go_upto_block 0 with (fail)
 go_cut [] (fun wr=>∃ pq:Pl,Aside0 (NdB w wr (tmO pq (nodeP t)))∧Aside0 (TmS wr (fun b=>(S b∧b<w.heap.size)∨w.heap.size+3≤b) pq (nodeP t)))
 case first =>
  by_cases h1:t.kind=1
  ·have HE:=Ak (show nodeP t=.mk t.kind t.num noName (.mk 0 0 []) [] [] by unfold nodeP;rw [if_pos h1,if_neg (by omega),if_neg (by omega),if_neg (by omega)])
   have b1:(t.kind == 1)=true:=by simp [h1]
   clear h1
   go_wp2
   go_meet
   have hch:=chg_set W (w.heap.size+1+1) 1 (.int .i64 t.num)
   case rel =>
    rw [HE.out]
    exact ⟨⟨none,0,none,0,none,0⟩,⟨⟨blk_put HST.out.o 1 _ rfl,(hch.block _ (blk_lt HST.out.res) (by omega)).trans HST.out.res,Chg.trans_below HST.out.bel hch (fun _ e=>by omega) HST.out.bel.size⟩⟩,⟨.mk (fun _=>default) (LvS.leaf _ _ _ _) (LvS.leaf _ _ _ _) (by simp) (by simp) ⟨HIN.out.fit.1,by decide,by simp⟩ (fun i x h=>by simp at h) (fun i x h=>by simp at h)⟩⟩
  have b1:(t.kind == 1)=false:=by simp [h1]
  have H1:=Ak h1
  clear h1
  by_cases h2:t.kind=2
  ·have HE:=Ak (show nodeP t=.mk t.kind 0 noName (owP t.lv) [] [] by unfold nodeP;rw [if_neg H1.out,if_neg (by omega),if_pos h2,if_neg (by omega)])
   have b2:(t.kind == 2)=true:=by simp [h2]
   clear h2
   go_wp2_with (first
    | (go_at_call 70;go_must (refine (ownLevel_calls (fun b=>S b∧b<w.heap.size) pA pc t.lv _ ((HIN.out.lv).same fun k hk hz=>HST.out.bel.block k hk.2)).mono ?_;obtain ⟨y,hy⟩:∃ y,y=owP t.lv:=⟨_,rfl⟩;rw [← hy];have HY:=Ak hy;rintro e w2 ⟨A2,cc2,rfl,hl2,hb⟩;have HL2:=Ak hl2;have HST2:=Ak (show NdB w w2 _ from ⟨blk_below HST.out.o hb,blk_below HST.out.res hb,below_then HST.out.bel HST.out.bel.size hb⟩);have HZ2:=Ak (nd_base HST.out);obtain ⟨r0,r1,r2,r3,r4,r5,r6,r7,f0,f1,f2,f3,f4,f5,f6,f7⟩:=row8c HST2.out.o;clear hb hl2 hy;simp only [lvV])))
   go_meet
   have hch:=chg_set3' w2 (w.heap.size+1+1) 3 4 5 (.int .i64 y.kind) (.int .i64 y.num) (.slice A2 y.kids.length cc2)
   have hz2:=HZ2.out
   case rel =>
    rw [HE.out,← HY.out]
    refine ⟨⟨A2,cc2,none,0,none,0⟩,⟨⟨blk_put (blk_put (blk_put HST2.out.o 3 _ rfl) 4 _ rfl) 5 _ rfl,(hch.block _ (blk_lt HST2.out.res) (by omega)).trans HST2.out.res,Chg.trans_below HST2.out.bel hch (fun _ e=>by omega) HST2.out.bel.size⟩⟩,⟨.mk (fun _=>default) ?_ (LvS.leaf _ _ _ _) (by simp) (by simp) ⟨by decide,by decide,by simp⟩ (fun i x h=>by simp at h) (fun i x h=>by simp at h)⟩⟩
    exact (HL2.out.same fun k hk hz=>hch.block k hz (fun e=>by rcases hk with hk | hk <;> omega)).mono fun k hk _=>hk.imp id fun h=>by omega
  have b2:(t.kind == 2)=false:=by simp [h2]
  have H2:=Ak h2
  clear h2
  by_cases h7:t.kind=7
  ·have HE:=Ak (show nodeP t=.mk t.kind 0 t.name (.mk 0 0 []) (t.ls.map owP) [] by unfold nodeP;rw [if_neg H1.out,if_pos h7,if_neg H2.out,if_pos h7])
   have b7:(t.kind == 7)=true:=by simp [h7]
   clear h7
   go_upto_block 1 with (fail)
   have hch:=chg_set W (w.heap.size+1+1) 2 (.string t.name)
   have hst1:NdB w (W.setCell ⟨w.heap.size+1+1,2,none⟩ (.string t.name)) (outN t.kind 0 t.name (.mk 0 0 []) none 0 (.slice none 0 0)):=⟨blk_put HST.out.o 2 _ rfl,(hch.block _ (blk_lt HST.out.res) (by omega)).trans HST.out.res,Chg.trans_below HST.out.bel hch (fun _ e=>by omega) HST.out.bel.size⟩
   obtain ⟨W1,hW1⟩:∃ W1,W1=W.setCell ⟨w.heap.size+1+1,2,none⟩ (.string t.name):=⟨_,rfl⟩
   rw [← hW1] at hst1 ⊢
   have HST1:=Ak hst1
   clear hst1 hch hW1
   go_wp2
   go_loopw [30] (fun i wr=>∃ (j:Nat) (V:Value),i=.int .i64 j∧j≤n∧Aside0 (NdB w wr (outN t.kind 0 t.name (.mk 0 0 []) none 0 V))∧Aside0 (KidsL wr (fun b=>S b∧b<w.heap.size) (w.heap.size+3) V ((t.ls.take j).map owP))) (fun i _=>n - (intOf i).toNat)
   case atStart=>exact ⟨0,.slice none 0 0,rfl,Nat.zero_le _,HST1,⟨KidsL.nil _ _ _⟩⟩
   case round =>
    clear HST1 HST HX c0 c1 c2 c3 c4 c5 c6 c7 r0 r1 r2 r3 r4 r5 r6 r7 f0 f1 f2 f3 f4 f5 f6 f7
    obtain ⟨j,V,rfl,hj,HST,HK⟩:=hrel
    by_cases hlt:j<n
    ·obtain ⟨x,hx⟩:∃ x,t.ls[j]?=some x:=⟨_,List.getElem?_eq_getElem (by rw [← HN.out];exact hlt)⟩
     obtain ⟨A',c',hcs,hxin⟩:=((HIN.out.ls).same (w':=wr) fun k hk hz=>HST.out.bel.block k hk.2).kid j x hx
     obtain ⟨ad,rfl,hc1,hc2,hc3⟩:=hcs.facts
     have HX:=Ak hx
     have HXIN:=Ak hxin
     obtain ⟨y,hy⟩:∃ y,y=owP x:=⟨_,rfl⟩
     have HY:=Ak hy
     have HTK:=Ak (show (t.ls.take (j+1)).map owP=(t.ls.take j).map owP ++ [y] by rw [List.take_add_one,hx,List.map_append,hy];rfl)
     have HTL:=Ak (show ((t.ls.take j).map owP).length=j by rw [List.length_map,List.length_take];have:=HN.out;omega)
     clear hcs hx hxin hy
     have hco:=blk_alloc HST.out.o (.cells #[.int .i64 x.kind,.int .i64 x.num,.slice A' x.kids.length c'] 25 (0,0))
     have hcv:(wr.alloc (.cells #[.int .i64 x.kind,.int .i64 x.num,.slice A' x.kids.length c'] 25 (0,0))).cell? ⟨w.heap.size+1+1,6,none⟩=some V:=by
      rw [cell_of_row _ _ _ _ _ _ hco];rfl
     have hcz:=blk_frozen hco 6
     clear hco
     go_upto_block 2 with (fail)
     go_cut [] (fun w5=>∃ v5,Aside0 (NdB w w5 (outN t.kind 0 t.name (.mk 0 0 []) none 0 v5))∧Aside0 (KidsL w5 (fun b=>S b∧b<w.heap.size) (w.heap.size+3) v5 ((t.ls.take (j+1)).map owP)))
     case first =>
      go_upto_region 12 with (fail)
      go_region_law (first
       | (go_simp;go_at_call 70;refine (ownLevel_calls (fun b=>S b∧b<w.heap.size) A' c' x _ (HXIN.out.later (by repeat' first | exact Below.refl _ _ | apply below_drew | apply below_alloc))).mono ?_;rw [← HY.out];rintro e w5 ⟨A5,c5,rfl,hl5,hb5⟩;have ST5:=Ak (nd_in HST.out HK.out (by repeat' first | exact Below.refl _ _ | apply below_drew | apply below_alloc) hb5 hl5);have hcv5:=ST5.out.cell;have hcz5:=blk_frozen ST5.out.o 6;have hcw5:=ST5.out.cell2 (.cells #[.int .i64 y.kind,.int .i64 y.num,.slice A5 y.kids.length c5] 25 (0,0));clear hl5 hb5;simp only [lvV])
       | (first
         | (have STA:=Ak ST5.out;obtain ⟨cells,fA,fc,hown,hkids⟩:=STA.out.kids;have hownj:=hown;rw [HTL.out] at hownj;refine step_append_cells (w0:=w5) (W:=w5) (w.heap.size+3) (by simp [Region.wanted]) (.tmp 35) (.tmp 38) 23 25 _ 3 40 rfl Try.underlying23 infoLv rfl (by decide) (by decide) V j cells [.int .i64 y.kind,.int .i64 y.num,.slice A5 y.kids.length c5] rfl rfl rfl (by simp [Value.oneCell']) hownj (Below.refl _ _) (nd_base STA.out.toNdB) (by omega) ?_;intro v6 w6 ho6 _ hg6 hat6;obtain ⟨A6,c6,rfl⟩:=own_slice ho6;have ST6:=Ak (nd_push HS.out STA.out hown hkids (by rw [HTL.out];exact ho6) hg6 hat6);have hcv6:=ST6.out.cell;have hcz6:=blk_frozen ST6.out.o 6;clear hown hownj hkids ho6 hg6 hat6 STA)
         | (have STA:=Ak ST5.out.drew;obtain ⟨cells,fA,fc,hown,hkids⟩:=STA.out.kids;have hownj:=hown;rw [HTL.out] at hownj;refine step_append_cells (w0:=w5.drew) (W:=w5.drew) (w.heap.size+3) (by simp [Region.wanted]) (.tmp 35) (.tmp 38) 23 25 _ 3 40 rfl Try.underlying23 infoLv rfl (by decide) (by decide) V j cells [.int .i64 y.kind,.int .i64 y.num,.slice A5 y.kids.length c5] rfl rfl rfl (by simp [Value.oneCell']) hownj (Below.refl _ _) (nd_base STA.out.toNdB) (by omega) ?_;intro v6 w6 ho6 _ hg6 hat6;obtain ⟨A6,c6,rfl⟩:=own_slice ho6;have ST6:=Ak (nd_push HS.out STA.out hown hkids (by rw [HTL.out];exact ho6) hg6 hat6);have hcv6:=ST6.out.cell;have hcz6:=blk_frozen ST6.out.o 6;clear hown hownj hkids ho6 hg6 hat6 STA)))
      all_goals (go_wp2;go_meet)
      all_goals (exact nd_fin HS.out ST6.out HTK.out)
     case rest =>
      clear HST HK HXIN hc1 hc2 hc3 hcv hcz
      obtain ⟨V2,HST,HK⟩:=hcut
      go_wp2
      go_roundw
      case rel=>exact ⟨j+1,V2,by go_num,by omega,HST,HK⟩
      case measure=>(simp [intOf];try omega)
    ·obtain rfl:j=n:=by omega
     have hlt':decide ((j:Int)<j)=false:=by simp
     have HTJ:=Ak (show t.ls.take j=t.ls from List.take_of_length_le (by rw [HN.out];exact Nat.le_refl _))
     go_wp2
     go_meet
     case rel =>
      rw [HTJ.out] at HK
      obtain ⟨A9,c9,rfl,hlv⟩:=HK.out.level
      rw [HE.out]
      exact ⟨⟨none,0,A9,c9,none,0⟩,HST,⟨.mk (fun _=>default) (LvS.leaf _ _ _ _) hlv (by simp) (by simp) ⟨by decide,HIN.out.fit.2.1,by rw [List.length_map];exact HIN.out.fit.2.2⟩ (fun i x h=>by simp at h) (fun i x h=>by simp at h)⟩⟩
  ·have HE:=Ak (show nodeP t=.mk t.kind 0 noName (.mk 0 0 []) [] [] by unfold nodeP;rw [if_neg H1.out,if_neg h7,if_neg H2.out,if_neg h7])
   have b7:(t.kind == 7)=false:=by simp [h7]
   clear h7
   go_wp2
   go_meet
   case rel =>
    rw [HE.out]
    exact ⟨⟨none,0,none,0,none,0⟩,HST,⟨.mk (fun _=>default) (LvS.leaf _ _ _ _) (LvS.leaf _ _ _ _) (by simp) (by simp) ⟨by decide,by decide,by simp⟩ (fun i x h=>by simp at h) (fun i x h=>by simp at h)⟩⟩
 case rest =>
  clear c0 c1 c2 c3 c4 c5 c6 c7 r0 r1 r2 r3 r4 r5 r6 r7 f0 f1 f2 f3 f4 f5 f6 f7 HST HX
  obtain ⟨pq,HST,HTM⟩:=hcut
  obtain ⟨y,hy⟩:∃ y,y=nodeP t:=⟨_,rfl⟩
  rw [← hy] at HST HTM
  have HY:=Ak hy
  clear hy
  obtain ⟨c0,c1,c2,c3,c4,c5,c6,c7⟩:=row8 HST.out.o
  obtain ⟨r0,r1,r2,r3,r4,r5,r6,r7,f0,f1,f2,f3,f4,f5,f6,f7⟩:=row8c HST.out.res
  go_wp2
  refine bodyPost_ret (results_c rfl _ _ (w.heap.size+1) 28 #[.int .i64 y.kind,.int .i64 y.num,.string y.name,.int .i64 y.lv.kind,.int .i64 y.lv.num,.slice pq.A y.lv.kids.length pq.c,.slice pq.B y.ls.length pq.d,.slice pq.K y.kids.length pq.e] (0,0) _ rfl (set8 HST.out.res) Try.underlying28 rfl (by kernel_rfl)) rfl ?_
  have hch:=chg_set8 wc (w.heap.size+1) (.int .i64 y.kind) (.int .i64 y.num) (.string y.name) (.int .i64 y.lv.kind) (.int .i64 y.lv.num) (.slice pq.A y.lv.kids.length pq.c) (.slice pq.B y.ls.length pq.d) (.slice pq.K y.kids.length pq.e)
  rw [← HY.out]
  exact ⟨pq,rfl,(HTM.out.same fun b hb hz=>hch.block b hz (by rcases hb with hb | hb <;> omega)).mono fun b hb _=>hb.imp And.left fun h=>by omega,Chg.trans_below HST.out.bel hch (fun _ e=>by omega) HST.out.bel.size⟩

end Go.Proofs.Ytdboloabpjmgaaa

namespace Go.RegionEYtdboloabpjmgaaa
open Go.RowKit Go.RegionInvYtdboloabpjmgaaa Go.Proofs.YtdboloabpjmgaaaW.PrintWords

def noDefer (o:Oper):Bool:=match o.op with | .defer _=>false | _=>true
theorem noDefer_of {o:Oper} (h:noDefer o=true):∀ c,o.op≠.defer c:=by
 intro c e
 unfold noDefer at h
 rw [e] at h
 cases h
theorem op_round {P:Program} {o:Oper} {a:Act} {w:World} {next next':Act→World→Prop} {Q:Exit→Act→World→Prop} {l m:Nat} (hnd:∀ c,o.op≠.defer c) (h:o.wp P a w next Q) (hn:∀ a w,next a w→next' a w) :
  o.wpIn (Fence.wide.inRound l) m P a w next' Q:=by
 refine ⟨fun f _=>trivial,?_⟩
 have e:Oper.semAt (Fence.wide.inRound l).round a.eval o=execOp a.eval o:=Oper.semAt_some l _ o hnd
 rw [e]
 unfold Oper.wp at h
 generalize (execOp a.eval o).run P w=r at h ⊢
 cases r with
 | ok nx w' =>
  cases nx with
  | value v=>exact hn _ _ h
  | skip=>exact hn _ _ h
  | defer d=>exact hn _ _ h
  | enter f args =>
   refine ⟨fun h=>by simp [Fence.wide] at h,?_⟩
   have hc:Calls P f args w' _:=h
   refine CallsIn.inRound l (callsIn_wide.2 (hc.mono ?_))
   intro e w'' h
   cases e with
   | returned v=>exact hn _ _ h
   | panicked c=>exact h
   | outgrown=>exact h
  | row row args =>
   refine ⟨fun h=>by simp [Fence.wide] at h,fun c cs _=>?_⟩
   obtain ⟨v,w2,hr,hs⟩:=(show Rows P row args w' _ from h) c cs
   exact ⟨v,w2,hn _ _ hr,stepsIn_wide.2 hs⟩
  | _=>exact h.elim
 | halt hl w' =>
  cases hl with
  | panic v=>exact h
  | _=>exact h.elim
theorem any_round {P:Program} {ops:Array Oper} {Q:Exit→Act→World→Prop} {l m:Nat} (hnd:∀ (i:Nat) (o:Oper),ops[i]?=some o→∀ c,o.op≠.defer c) (hQ:¬ LetsOut Q) (fuel:Nat) :
  ∀ (L:Array Bool) (a:Act) (w:World),wpAny P .any ops Q fuel L a w→wpAnyIn (Fence.wide.inRound l) m P .any ops Q fuel L a w:=by
 induction fuel with
 | zero=>intro L a w h;exact h
 | succ fuel ih =>
  intro L a w h
  refine ⟨h.1,fun i hi=>?_⟩
  have h2:=h.2 i hi
  unfold wpOp at h2
  unfold wpOpIn
  cases ho:ops[i]? with
  | none=>rw [ho] at h2;exact ih _ _ _ h2
  | some o =>
   rw [ho] at h2
   simp only at h2 ⊢
   by_cases hw:Region.wanted o (yielded ops a.tmps)=true
   ·rw [if_pos hw] at h2 ⊢
    rcases h2 with h2 | h2
    ·exact op_round (hnd i o ho) h2 (ih _)
    ·exact absurd h2.2 hQ
   ·rw [if_neg hw] at h2 ⊢
    exact ⟨fun f _=>trivial,ih _ _ _ h2⟩
section
variable {P:Program} {ops:Array Oper} {Q:Exit→Act→World→Prop} {E:Nat→Nat→Prop} {C:Nat→List Nat} {F:Nat→(Nat→Value)→Value→World→(Nat→Prop)→Prop} {a0:Act} {w0:World}
theorem wpIn_region_est {id l m:Nat} {a0:Act} {w0:World} (hQ:¬ LetsOut Q) (hnd:ops.all noDefer=true) (hm:P.follows .mixedOrders=true) (E:Nat→Nat→Prop) (C:Nat→List Nat) (F:Nat→(Nat→Value)→Value→World→(Nat→Prop)→Prop) (hE:∀ i j k,E i k→E j k→i=j) (hEr:∀ i k,E i k→k<w0.heap.size) (hok:okB ops a0.tmps.size=true) (hcons:consB ops C=true)
  (hobs:ObsE P ops Q E C F a0 w0.drew ops.toList 0)
  (hend:∀ a w (O:Nat→Nat→Prop),a.defers=a0.defers→a.tmps.size=a0.tmps.size→Chg (fun k=>∃ i,E i k) w0.drew w →
   (∀ (i:Nat) (o:Oper) (d:Nat),ops[i]?=some o→o.dst=some d→(∀ k,k<ops.size→i∉C k)→F i (slots a) (a.tmps.getD d undef) w (O i)∧∀ k,O i k→k<w.heap.size∧¬ Fix w0.drew E k) →
   (∀ (i:Nat) (o:Oper),ops[i]?=some o→o.dst=none→(∀ k,k<ops.size→i∉C k)→(∃ v,F i (slots a) v w (O i))∧∀ k,O i k→k<w.heap.size∧¬ Fix w0.drew E k) →
   (∀ i i',i<ops.size→i'<ops.size→(∀ k,k<ops.size→i∉C k)→(∀ k,k<ops.size→i'∉C k)→i≠i'→∀ k,O i k→¬ O i' k) →
   (∀ (t:Nat),(∀ (i:Nat) (o:Oper),ops[i]?=some o→o.dst≠some t)→a.tmps.getD t undef=a0.tmps.getD t undef)→Q .normal a w) :
  (Code.region id ops true).wpIn (Fence.wide.inRound l) m P Q a0 w0:=by
 refine wpIn_region_any hm (any_round (fun i o hi=>noDefer_of (Array.all_eq_true'.1 hnd o (Array.mem_of_getElem? hi))) hQ _ _ _ _ ?_)
 refine any_of_invE (E:=E) (C:=C) (F:=F) (a0:=a0) (w0:=w0.drew) hE hEr hok hcons hobs ?_ _ _ (fun _ _=>False) _ _ ?_ ?_
 ·intro L O a w hL hI
  have hl:∀ i,i<ops.size→(∀ k,k<ops.size→i∉C k)→live ops C L i:=fun i hi hn=>⟨hL i hi,fun k hk _=>hn k hk⟩
  refine hend a w O hI.defers hI.size hI.world (fun i o d hi hd hn=>?_) (fun i o hi hd hn=>?_) (fun i i' hi hi' hn hn' hne=>hI.apart i i' (hl i hi hn) (hl i' hi' hn') hne) (fun t ht=>hI.same t fun i o hi _=>ht i o hi)
  ·have hl:=hl i (Array.getElem?_eq_some_iff.1 hi).1 hn
   exact ⟨hI.fact i o d hi hd hl,fun k hO=>⟨(hI.owns i hl k hO).1,(hI.owns i hl k hO).2.1⟩⟩
  ·have hl:=hl i (Array.getElem?_eq_some_iff.1 hi).1 hn
   exact ⟨hI.nofact i o hi hd hl,fun k hO=>⟨(hI.owns i hl k hO).1,(hI.owns i hl k hO).2.1⟩⟩
 ·refine ⟨rfl,rfl,?_,?_,?_,?_,fun _ _=>rfl,?_,Chg.refl _ _,fun _ _ _ _=>rfl,by simp,fun i o d _ _ h=>by simp [Array.getD] at h⟩
  ·intro i o d _ _ h;have:=h.1;simp [Array.getD] at this
  ·intro i o _ _ h;have:=h.1;simp [Array.getD] at this
  ·intro i _ k h;exact h.elim
  ·intro i j _ _ _ k h;exact h.elim
  ·intro i o _ h;simp [Array.getD] at h
 ·exact Nat.le_trans (List.length_filter_le _ _) (by simp)
end
end Go.RegionEYtdboloabpjmgaaa

namespace Go.Proofs.Ytdboloabpjmgaaa
open Go.RowKit Go.Proofs.YtdboloabpjmgaaaW.PrintWords Go.RegionInvYtdboloabpjmgaaa Go.RegionEYtdboloabpjmgaaa

def CellsB (w:World) (k:Nat):Prop:=∃ cs t fr,w.heap[k]?=some (.cells cs t fr)
theorem cell_block {w:World} {a:Addr} {v:Value} (hs:a.spot=none) (h:w.cell? a=some v):CellsB w a.block:=by
 unfold World.cell? at h
 rw [hs] at h
 cases ho:w.heap[a.block]? with
 | none=>simp [ho] at h
 | some ob =>
  cases ob with
  | cells cs t fr=>exact ⟨cs,t,fr,ho⟩
  | _=>simp [ho] at h
theorem add_block (a:Addr) (j:Nat):(a.add j).block=a.block:=by unfold Addr.add;split <;> rfl
theorem add_spot {a:Addr} (h:a.spot=none) (j:Nat):(a.add j).spot=none:=by unfold Addr.add;split <;> simp_all
theorem LvS.cells {w:World} {S:Nat→Prop} {A:Option Addr} {c:Nat} {l:Lv} (h:LvS w S A c l):LvS w (fun k=>S k∧CellsB w k) A c l:=by
 induction h with
 | mk fA fc hc hm hcell hk ih =>
  refine .mk fA fc hc hm (fun i x hx=>?_) ih
  obtain ⟨ad,e,hS,hsp,h1,h2,h3⟩:=hcell i x hx
  have:=cell_block (add_spot hsp _) h1
  rw [add_block] at this
  exact ⟨ad,e,⟨hS,this⟩,hsp,h1,h2,h3⟩
theorem TmS.cells {w:World} {S:Nat→Prop} {p:Pl} {t:Tm} (h:TmS w S p t):TmS w (fun k=>S k∧CellsB w k) p t:=by
 induction h with
 | mk q hlv hls hc hm hf hcell hk ih =>
  refine .mk q hlv.cells hls.cells hc hm hf (fun i x hx=>?_) ih
  obtain ⟨b,o,e,hS,hcs⟩:=hcell i x hx
  exact ⟨b,o,e,⟨hS,cell_block rfl (hcs 0 _ rfl)⟩,hcs⟩
theorem TmS.grown {w w':World} {S:Nat→Prop} {p:Pl} {t:Tm} {row:Option Nat} (h:TmS w S p t) (hg:w.grownBy w' row) (hr:∀ r,row=some r→¬ CellsB w r):TmS w' S p t:=
 (h.cells.same (fun k hk hz=>hg.block k hz fun e=>hr k e.symm hk.2)).mono fun k hk _=>hk.1
theorem KidsT.grown {w w':World} {S:Nat→Prop} {lo:Nat} {V:Value} {xs:List Tm} {row:Option Nat} (h:KidsT w S lo V xs) (hg:w.grownBy w' row) (hr:∀ r,row=some r→¬ CellsB w r):KidsT w' S lo V xs:=by
 obtain ⟨cells,q,ho,hk⟩:=h
 refine ⟨cells,q,ownsRow_same ho fun k hk=>hg.block k (own_lt ho k hk) fun e=>hr k e.symm ?_,fun i x hx=>⟨(hk i x hx).1,(hk i x hx).2.grown hg hr⟩⟩
 rcases ho.2 with ⟨rfl,_⟩ | ⟨g,cap,cur,rfl,_,hh,_⟩
 ·simp [Value.ownBlock] at hk
 ·have:g=k:=by simpa [Value.ownBlock] using hk
  subst this
  exact ⟨_,_,_,hh⟩
theorem setCells_other (g:Nat):∀ (vs:List Value) (o:Nat) (w:World),(w.setCells g o vs).os=w.os∧(w.setCells g o vs).tape=w.tape∧(w.setCells g o vs).output=w.output∧(w.setCells g o vs).heap.size=w.heap.size∧∀ k,k≠g→(w.setCells g o vs).heap[k]?=w.heap[k]?
 | [],o,w=>⟨rfl,rfl,rfl,rfl,fun _ _=>rfl⟩
 | v :: r,o,w=>by
  have h:=setCells_other g r (o+1) (w.setCell ⟨g,o,none⟩ v)
  have hc:=chg_set w g o v
  rw [World.setCells]
  refine ⟨h.1.trans hc.os,h.2.1.trans hc.tape,h.2.2.1.trans hc.output,by rw [h.2.2.2.1,World.size_setCell],fun k hk=>?_⟩
  rw [h.2.2.2.2 k hk]
  by_cases hz:k<w.heap.size
  ·exact hc.block k hz hk
  ·rw [Array.getElem?_eq_none (by rw [World.size_setCell];omega),Array.getElem?_eq_none (by omega)]
theorem setCells_row {g:Nat} {e:TypeId}:∀ (vs:List Value) (o:Nat) (w:World) (cur:Array Value),w.heap[g]?=some (.cells cur e (0,0))→o+vs.length≤cur.size →
  ∃ cur',(w.setCells g o vs).heap[g]?=some (.cells cur' e (0,0))∧cur'.size=cur.size∧(∀ i,i<o→cur'[i]?=cur[i]?)∧∀ j v,vs[j]?=some v→cur'[o+j]?=some v
 | [],o,w,cur,h,_=>⟨cur,h,rfl,fun _ _=>rfl,fun j v hv=>by simp at hv⟩
 | v :: r,o,w,cur,h,hl=>by
  have h1:=blk_put h o v rfl
  rw [List.length_cons] at hl
  obtain ⟨cur',h2,h3,h4,h5⟩:=setCells_row r (o+1) (w.setCell ⟨g,o,none⟩ v) _ h1 (by simp;omega)
  refine ⟨cur',h2,by simpa using h3,fun i hi=>?_,fun j u hj=>?_⟩
  ·rw [h4 i (by omega),Array.getElem?_setIfInBounds_ne (by omega)]
  ·cases j with
   | zero =>
    obtain rfl:v=u:=by simpa using hj
    rw [Nat.add_zero,h4 o (by omega)]
    rw [Array.getElem?_setIfInBounds_self_of_lt (by omega)]
   | succ j =>
    have:=h5 j u (by simpa using hj)
    rw [show o+(j+1)=o+1+j by omega]
    exact this
theorem own_setLast {w:World} {lo g n cap size:Nat} {e:TypeId} {xs zs ys:List Value} (h:w.ownsRow lo e size (.slice (some ⟨g,0,none⟩) (n+1) cap) (n+1) (xs ++ zs)) (hz:zs.length=size) (hy:ys.length=size) :
  (w.setCells g (n * size) ys).ownsRow lo e size (.slice (some ⟨g,0,none⟩) (n+1) cap) (n+1) (xs ++ ys):=by
 obtain ⟨h1,h2⟩:=h
 rw [List.length_append,hz] at h1
 have hx:xs.length=n * size:=by rw [Nat.add_mul,Nat.one_mul] at h1;omega
 rcases h2 with ⟨e1,_⟩ | ⟨g',cap',cur,e1,hb,hh,hc,hm,hs,ht⟩
 ·simp at e1
 ·injection e1 with e1 _ e2
  injection e1 with e1
  injection e1 with e1
  subst e1
  subst e2
  have hle:(n+1) * size≤cap * size:=Nat.mul_le_mul_right _ hc
  have hsum:(n+1) * size=n * size+size:=by rw [Nat.add_mul,Nat.one_mul]
  obtain ⟨cur',k1,k2,k3,k4⟩:=setCells_row ys (n * size) w cur hh (by rw [hy];omega)
  refine ⟨by rw [List.length_append,hy,hx,hsum],.inr ⟨_,_,cur',rfl,hb,k1,hc,hm,by rw [k2,hs],?_⟩⟩
  apply List.ext_getElem?
  intro i
  have hcx:∀ i,i<n * size→cur.toList[i]?=xs[i]?:=fun i hi=>by
   have this:(cur.toList.take ((n+1) * size))[i]?=(xs ++ zs)[i]?:=by rw [ht]
   rw [List.getElem?_take,if_pos (by omega),List.getElem?_append_left (by omega)] at this
   exact this
  rw [List.getElem?_take]
  by_cases hi:i<(n+1) * size
  ·rw [if_pos hi]
   by_cases hi2:i<n * size
   ·rw [List.getElem?_append_left (by omega),← hcx i hi2]
    simpa using k3 i hi2
   ·rw [List.getElem?_append_right (by omega),hx]
    obtain ⟨j,rfl⟩:∃ j,i=n * size+j:=⟨i - n * size,by omega⟩
    have hj:j<ys.length:=by omega
    rw [Nat.add_sub_cancel_left,List.getElem?_eq_getElem hj]
    have:=k4 j _ (List.getElem?_eq_getElem hj)
    simpa using this
  ·rw [if_neg hi,List.getElem?_eq_none (by rw [List.length_append];omega)]
def TmO (T:Nat→Prop) (t:Tm) (v:Value) (w:World) (O:Nat→Prop):Prop:=∃ q,v=tmV q t∧TmS w (fun k=>T k∨O k) q t
theorem stableE_tm {w0:World} {E:Nat→Nat→Prop} {T:Nat→Prop} {t:Tm} (hT:∀ k,T k→Fix w0 E k):StableE w0 E (TmO T t):=by
 rintro v w w' O ⟨q,e,h⟩ hz hk
 exact ⟨q,e,h.same fun k hk' hz'=>hk k hz' (hk'.imp (hT k) id)⟩
def RowT (T:Nat→Prop) (lo n:Nat) (cells:List Value) (t:Tm) (V:Value) (w:World) (O:Nat→Prop):Prop:=
 ∃ q,w.ownsRow lo 28 8 V (n+1) (cells ++ tmC q t)∧(∀ k,V.ownBlock=some k→O k)∧TmS w (fun k=>T k∨(O k∧V.ownBlock≠some k)) q t
theorem stableE_row {w0:World} {E:Nat→Nat→Prop} {T:Nat→Prop} {lo n:Nat} {cells:List Value} {t:Tm} {V:Value} (hT:∀ k,T k→Fix w0 E k):StableE w0 E (fun _ w O=>RowT T lo n cells t V w O):=by
 rintro v w w' O ⟨q,ho,hO,h⟩ hz hk
 exact ⟨q,ownsRow_same ho fun k hk'=>hk k (own_lt ho k hk') (.inr (hO k hk')),hO,h.same fun k hk' hz'=>hk k hz' (hk'.imp (hT k) And.left)⟩
section
variable {ops:Array Oper} {Q:Exit→Act→World→Prop} {R:Nat→Prop} {a:Act} {w:World} {o:Oper} {T:Nat→Prop}
theorem obE_tmCall {f:FuncId} {fn:Func} {ars:Array Operand} {ts:Array TypeId} {t:Tm} (args:Array Value) (hf:Try.prog.funcs[f]?=some fn) (hname:(fn.name == "runtime.NumGoroutine")=false) (hb:fn.body.isSome=true)
  (ho:o.op=.call { callee:=.value (.func f),args:=ars,argTypes:=ts }) (hargs:ars.toList.map a.eval=args.toList) (hw:Region.wanted o (yielded ops a.tmps)=true)
  (hc:Calls Try.prog f args w (TmGot w (fun k=>T k∨R k) t)):OwesE Try.prog ops Q R (TmO T t) o a w:=by
 refine obE_call args hf hname hb ho hargs hw (hc.mono ?_)
 rintro e w' ⟨q,rfl,h,hB⟩
 exact ⟨_,fun k=>k<w'.heap.size∧(R k∨w.heap.size≤k),rfl,⟨q,rfl,h.mono fun k h hz=>h.elim (fun h=>h.elim .inl fun h=>.inr ⟨hz,.inl h⟩) fun h=>.inr ⟨hz,.inr h⟩⟩,Chg.of_below hB,fun k h=>h.2.elim .inl fun h'=>.inr ⟨h',h.1⟩⟩
theorem print_append_at {P:Program} {rest:List Oper} {W:World} {p:Nat} (base:Nat) (hgd:o.guard=none) (s x:Operand) (t e:TypeId) (z:Value) (size bytes:Nat)
  (ho:o.op=.call { callee:=.builtin .append,args:=#[s,x],argTypes:=#[t,t] })
  (ht:P.underlying t=some (.slice e)) (hinfo:(P.info? e).map (fun i=>(i.zero,i.size,i.bytes))=some (some z,size,bytes)) (hz:z.cells.size=size) (hs0:0<size) (hb0:0<bytes)
  (v:Value) (n:Nat) (xs ys:List Value) (hs:a.eval s=v) (hx:a.eval x=.slice (some ⟨p,0,none⟩) 1 1) (hp:W.heap[p]?=some (.cells ys.toArray e (0,0))) (hys:ys.length=size) (h1:∀ u∈ys,u.oneCell'=true)
  (HO:W.ownsRow base e size v n xs) (hl:(n+1) * bytes≤140737488355328) (hbase:base≤W.heap.size)
  (h:∀ v1 w1,w1.ownsRow base e size v1 (n+1) (xs ++ ys)→W.grownBy w1 v.ownBlock→(v1.ownBlock=v.ownBlock∨∃ b,v1.ownBlock=some b∧W.heap.size≤b)→wpList P ops Q rest (a.put o.dst v1) w1) :
  wpList P ops Q (o :: rest) a W:=by
 obtain ⟨i0,hi,hzz⟩:=Option.map_eq_some_iff.1 hinfo
 simp only [Prod.mk.injEq] at hzz
 obtain ⟨hz0,hz1,hz2⟩:=hzz
 have hlen:n+1≤140737488355328:=Nat.le_trans (Nat.le_mul_of_pos_right _ hb0) hl
 refine wpList_append_own_at W hgd s x t ho base e i0 z size bytes ht hi hz0 hz1 hz2 hz hs0 v n xs hs HO ⟨p,0,none⟩ 1 1 ys hx (by rw [hys];simp)
  (by simpa using World.news_of_block (cs:=ys.toArray) (t:=e) (fr:=(0,0)) hp) h1 (by simp only [maxLen];omega) hl hbase ?_
 intro v1 w1 hown hg _ hat
 refine h v1 w1 hown hg ?_
 rcases hat with hat | hat
 ·exact .inl hat
 ·exact .inr ⟨_,hat,Nat.le_refl _⟩
theorem infoTm:(Try.prog.info? 28).map (fun i=>(i.zero,i.size,i.bytes))=some (some (.agg #[.int .i64 0,.int .i64 0,.string ⟨#[]⟩,.int .i64 0,.int .i64 0,.slice none 0 0,.slice none 0 0,.slice none 0 0]),8,120):=by kernel_rfl
abbrev zeroC:List Value:=[.int .i64 0,.int .i64 0,.string ⟨#[]⟩,.int .i64 0,.int .i64 0,.slice none 0 0,.slice none 0 0,.slice none 0 0]
theorem tmC_one (q:Pl) (t:Tm):(tmC q t).all (·.oneCell')=true:=rfl
theorem obE_tmElem {t:Tm} {O1 O2:Nat→Prop} {x y:Operand} {lo n g c:Nat} {cells:List Value} {V:Value} (ho:o.op=.store 28 x y) (hw:Region.wanted o (yielded ops a.tmps)=true) (hV:V=.slice (some ⟨g,0,none⟩) (n+1) c) (hx:a.eval x=.pointer (some ⟨g,n * 8,none⟩))
  (h1:OwnO lo 28 8 (n+1) (cells ++ zeroC) V w O1) (h2:TmO T t (a.eval y) w O2) (hR1:∀ k,O1 k→R k) (hR2:∀ k,O2 k→R k) (hap:∀ k,O1 k→¬ O2 k) (hT:∀ k,T k→¬ O1 k) :
  OwesE Try.prog ops Q R (fun _ w O=>RowT T lo n cells t V w O) o a w:=by
 obtain ⟨q,hy,ht⟩:=h2
 subst hV
 obtain ⟨hown,hO⟩:=h1
 have hOg:O1 g:=hO g rfl
 have hblk:∃ cur,w.heap[g]?=some (.cells cur 28 (0,0))∧(n+1) * 8≤cur.size:=by
  rcases hown.2 with ⟨e1,_⟩ | ⟨g',cap',cur,e1,hb,hh,hc,hm,hs,ht⟩
  ·simp at e1
  ·injection e1 with e1 _ e2
   injection e1 with e1
   injection e1 with e1
   subst e1
   subst e2
   exact ⟨cur,hh,by rw [hs];exact Nat.mul_le_mul_right _ hc⟩
 obtain ⟨cur,hcur,hsz⟩:=hblk
 have hthere:w.there g (n * 8) (tmC q t).toArray.size:=fun j hj=>by
  have hj:j<8:=hj
  refine ⟨?_,blk_frozen hcur _⟩
  rw [cell_of_row _ _ _ _ _ _ hcur,Array.getElem?_eq_getElem (by omega)];rfl
 have hs:=run_storeVar_mid (P:=Try.prog) w g (n * 8) 28 (tmC q t).toArray hthere (by kernel_rfl) (by rw [List.all_toArray];exact tmC_one q t)
 obtain ⟨s1,s2,s3,s4,s5⟩:=setCells_other g (tmC q t) (n * 8) w
 refine obE_store (w':=w.setCells g (n * 8) (tmC q t)) (fun k=>O1 k∨O2 k) hw ?_ ⟨s1,s2,s3,Nat.le_of_eq s4.symm,fun k _ hn=>s5 k (fun e=>hn (e ▸ hR1 g hOg))⟩ ⟨q,own_setLast hown rfl rfl,fun k hk=>.inl (hO k hk),?_⟩ (fun k h=>.inl (h.elim (hR1 k) (hR2 k)))
 ·unfold execOp
  simp only [ho,hx,hy,tmV,Instr.storeAt,Instr.sureAddr,Sem.run_bind,Sem.run_pure,Result.andThen_ok]
  exact congrArg (Result.andThen · _) hs
 ·refine ((ht.mono (S':=fun k=>(T k∨O2 k)∧k≠g) fun k h _=>⟨h,fun e=>h.elim (fun h=>hT k h (e ▸ hOg)) (fun h=>hap g hOg (e ▸ h))⟩).same (fun k h _=>s5 k h.2)).mono fun k h _=>h.1.imp id fun h'=>⟨.inr h',fun e=>h.2 ?_⟩
  simpa [Value.ownBlock] using e.symm
end
end Go.Proofs.Ytdboloabpjmgaaa

namespace Go.Proofs.Ytdboloabpjmgaaa
open Go.RowKit Go.Proofs.YtdboloabpjmgaaaW.PrintWords Go.RegionInvYtdboloabpjmgaaa Go.RegionEYtdboloabpjmgaaa
set_option linter.unusedVariables false

abbrev outK (k:Int) (V:Value):Obj:=.cells #[.int .i64 k,.int .i64 0,.string ⟨#[]⟩,.int .i64 0,.int .i64 0,.slice none 0 0,.slice none 0 0,V] 28 (0,0)
set_option maxRecDepth 100000 in
theorem run_elemAddr {a:Act} {w:World} {o:Oper} {x y:Operand} {g n c:Nat} (ho:o.op=.indexAddr 26 x y) (hx:a.eval x=.slice (some ⟨g,0,none⟩) (n+1) c) (hy:a.eval y=.int .i64 n) :
  (execOp a.eval o).run Try.prog w=.ok (.value (.pointer (some ⟨g,n * 8,none⟩))) w:=by
 have hel:Try.prog.elem 26=28:=by simp [Program.elem,Try.underlying26]
 obtain ⟨j,hj,hz⟩:=Option.map_eq_some_iff.1 infoTm
 have hs:j.size=8:=by injection hz with _ hz;injection hz
 unfold execOp;rw [ho];simp only [];rw [hx,hy]
 simp only [Sem.run_bind,Result.andThen_ok]
 rw [run_indexAt_slice w 26 ⟨g,0,none⟩ (n+1) c .i64 n (by rw [hel];exact Try.underlying26),if_pos (by omega),hel]
 simp [sizeOf,typeInfo,hj,hs,Result.andThen,add_flat]

def rb_ops:List Oper:=[
 { dst:=some 23,op:=Go.Op.fieldAddr 28 (Go.Operand.tmp 7) 5,type:=0,pos:= "term.go:114",after:=#[],guard:=none },
 { dst:=some 24,op:=Go.Op.load 26 (Go.Operand.tmp 23),type:=26,pos:= "term.go:114",after:=#[{ on:=0,ground:=Go.Ground.data }],guard:=none },
 { dst:=some 25,op:=Go.Op.load 28 (Go.Operand.tmp 9),type:=28,pos:= "term.go:114",after:=#[],guard:=none },
 { dst:=some 26,op:=Go.Op.load 3 (Go.Operand.tmp 4),type:=3,pos:= "term.go:114",after:=#[],guard:=none },
 { dst:=some 27,op:=Go.Op.move (Go.Operand.tmp 8),type:=3,pos:= "term.go:114",after:=#[],guard:=none },
 { dst:=some 28,op:=Go.Op.binOp Go.BinOp.add 3 (Go.Operand.tmp 26) (Go.Operand.tmp 27) 3,type:=3,pos:= "term.go:114",after:=#[{ on:=3,ground:=Go.Ground.data },{ on:=4,ground:=Go.Ground.data }],guard:=none },
 { dst:=some 29,op:=Go.Op.load 68 (Go.Operand.tmp 5),type:=68,pos:= "term.go:114",after:=#[],guard:=none },
 { dst:=some 30,op:=Go.Op.call { callee:=Go.Callee.value (Go.Operand.func 60),args:=#[Go.Operand.tmp 25,Go.Operand.tmp 28,Go.Operand.tmp 29],argTypes:=#[28,3,68] },type:=28,pos:= "term.go:114",after:=#[{ on:=2,ground:=Go.Ground.data },{ on:=5,ground:=Go.Ground.data },{ on:=6,ground:=Go.Ground.data }],guard:=none },
 { dst:=some 31,op:=Go.Op.call { callee:=Go.Callee.builtin Go.Builtin.len,args:=#[Go.Operand.tmp 24],argTypes:=#[26] },type:=3,pos:= "term.go:114",after:=#[{ on:=1,ground:=Go.Ground.data }],guard:=none },
 { dst:=some 32,op:=Go.Op.buildSlice 26 1 #[(0,Go.Operand.const (Go.Value.agg #[Go.Value.int Go.IntKind.i64 0,Go.Value.int Go.IntKind.i64 0,Go.Value.string { data:=#[] },Go.Value.int Go.IntKind.i64 0,Go.Value.int Go.IntKind.i64 0,Go.Value.slice none 0 0,Go.Value.slice none 0 0,Go.Value.slice none 0 0]))],type:=26,pos:= "term.go:114",after:=#[],guard:=none },
 { dst:=some 33,op:=Go.Op.call { callee:=Go.Callee.builtin Go.Builtin.append,args:=#[Go.Operand.tmp 24,Go.Operand.tmp 32],argTypes:=#[26,26] },type:=26,pos:= "term.go:114",after:=#[{ on:=1,ground:=Go.Ground.data },{ on:=9,ground:=Go.Ground.data },{ on:=7,ground:=Go.Ground.chain },{ on:=0,ground:=Go.Ground.phase },{ on:=1,ground:=Go.Ground.phase },{ on:=2,ground:=Go.Ground.phase },{ on:=3,ground:=Go.Ground.phase },{ on:=4,ground:=Go.Ground.phase },{ on:=5,ground:=Go.Ground.phase },{ on:=6,ground:=Go.Ground.phase },{ on:=7,ground:=Go.Ground.phase },{ on:=8,ground:=Go.Ground.phase },{ on:=9,ground:=Go.Ground.phase }],guard:=none },
 { dst:=some 34,op:=Go.Op.indexAddr 26 (Go.Operand.tmp 33) (Go.Operand.tmp 31),type:=0,pos:= "term.go:114",after:=#[{ on:=10,ground:=Go.Ground.data },{ on:=8,ground:=Go.Ground.data },{ on:=0,ground:=Go.Ground.phase },{ on:=1,ground:=Go.Ground.phase },{ on:=2,ground:=Go.Ground.phase },{ on:=3,ground:=Go.Ground.phase },{ on:=4,ground:=Go.Ground.phase },{ on:=5,ground:=Go.Ground.phase },{ on:=6,ground:=Go.Ground.phase },{ on:=7,ground:=Go.Ground.phase },{ on:=8,ground:=Go.Ground.phase },{ on:=9,ground:=Go.Ground.phase },{ on:=10,ground:=Go.Ground.phase },{ on:=14,ground:=Go.Ground.gcOnly Go.Departure.appendInPlace }],guard:=none },
 { dst:=none,op:=Go.Op.store 28 (Go.Operand.tmp 34) (Go.Operand.tmp 30),type:=0,pos:= "term.go:114",after:=#[{ on:=11,ground:=Go.Ground.data },{ on:=7,ground:=Go.Ground.data },{ on:=10,ground:=Go.Ground.chain },{ on:=0,ground:=Go.Ground.phase },{ on:=1,ground:=Go.Ground.phase },{ on:=2,ground:=Go.Ground.phase },{ on:=3,ground:=Go.Ground.phase },{ on:=4,ground:=Go.Ground.phase },{ on:=5,ground:=Go.Ground.phase },{ on:=6,ground:=Go.Ground.phase },{ on:=7,ground:=Go.Ground.phase },{ on:=8,ground:=Go.Ground.phase },{ on:=9,ground:=Go.Ground.phase },{ on:=10,ground:=Go.Ground.phase },{ on:=14,ground:=Go.Ground.gcOnly Go.Departure.appendInPlace }],guard:=none },
 { dst:=some 35,op:=Go.Op.fieldAddr 28 (Go.Operand.tmp 7) 5,type:=0,pos:= "term.go:114",after:=#[{ on:=0,ground:=Go.Ground.phase },{ on:=1,ground:=Go.Ground.phase },{ on:=2,ground:=Go.Ground.phase },{ on:=3,ground:=Go.Ground.phase },{ on:=4,ground:=Go.Ground.phase },{ on:=5,ground:=Go.Ground.phase },{ on:=6,ground:=Go.Ground.phase },{ on:=7,ground:=Go.Ground.phase },{ on:=8,ground:=Go.Ground.phase },{ on:=9,ground:=Go.Ground.phase },{ on:=10,ground:=Go.Ground.phase },{ on:=11,ground:=Go.Ground.textOnly Go.Departure.appendInPlace },{ on:=12,ground:=Go.Ground.textOnly Go.Departure.appendInPlace }],guard:=none },
 { dst:=none,op:=Go.Op.store 26 (Go.Operand.tmp 35) (Go.Operand.tmp 33),type:=0,pos:= "term.go:114",after:=#[{ on:=13,ground:=Go.Ground.data },{ on:=10,ground:=Go.Ground.data },{ on:=10,ground:=Go.Ground.chain },{ on:=12,ground:=Go.Ground.textOnly Go.Departure.appendInPlace },{ on:=0,ground:=Go.Ground.phase },{ on:=1,ground:=Go.Ground.phase },{ on:=2,ground:=Go.Ground.phase },{ on:=3,ground:=Go.Ground.phase },{ on:=4,ground:=Go.Ground.phase },{ on:=5,ground:=Go.Ground.phase },{ on:=6,ground:=Go.Ground.phase },{ on:=7,ground:=Go.Ground.phase },{ on:=8,ground:=Go.Ground.phase },{ on:=9,ground:=Go.Ground.phase },{ on:=10,ground:=Go.Ground.phase },{ on:=11,ground:=Go.Ground.textOnly Go.Departure.appendInPlace },{ on:=12,ground:=Go.Ground.textOnly Go.Departure.appendInPlace }],guard:=none }]
def rb_F (w0:World) (S:Nat→Prop) (Ob Bx gb gf lo g0 g1 n c:Nat) (A:Option Addr) (cells:List Value) (kk b mr:Int) (q:Pl) (x x':Tm) (VF:Value):Nat→(Nat→Value)→Value→World→(Nat→Prop)→Prop:=fun rix=>match rix with
 | 0=>fun _ v _ _=>v=.pointer (some ⟨Ob,7,none⟩)
 | 1=>fun _ v _ _=>v=.slice A n c
 | 2=>fun _ v _ _=>v=tmV q x
 | 3=>fun _ v _ _=>v=.int .i64 b
 | 4=>fun _ v _ _=>v=.int .i64 mr
 | 5=>fun _ v _ _=>v=.int .i64 (b+mr)
 | 6=>fun _ v _ _=>v=VF
 | 7=>fun τ v w O=>TmO S x' v w O
 | 8=>fun _ v _ _=>v=.int .i64 n
 | 9=>fun τ v w O=>∃ p,v=.slice (some ⟨p,0,none⟩) 1 1∧w.heap[p]?=some (.cells zeroC.toArray 28 (0,0))∧O p
 | 10=>fun τ v w O=>OwnO lo 28 8 (n+1) (cells ++ zeroC) v w O
 | 11=>fun τ v w O=>∃ g c2,τ 33=.slice (some ⟨g,0,none⟩) (n+1) c2∧v=.pointer (some ⟨g,n * 8,none⟩)
 | 12=>fun τ v w O=>RowT S lo n cells x' (τ 33) w O
 | 13=>fun _ v _ _=>v=.pointer (some ⟨Ob,7,none⟩)
 | 14=>fun τ v w O=>w.heap[Ob]?=some (outK kk (τ 33))∧O Ob
 | _=>fun _ _ _ _=>True
def rb_C:Nat→List Nat:=fun rix=>match rix with
 | 12=>[10,7]
 | _=>[]
theorem rb_nw4:nwB rb_ops.toArray 4=true:=by kernel_rfl
theorem rb_nw5:nwB rb_ops.toArray 5=true:=by kernel_rfl
theorem rb_nw7:nwB rb_ops.toArray 7=true:=by kernel_rfl
theorem rb_nw8:nwB rb_ops.toArray 8=true:=by kernel_rfl
theorem rb_nw9:nwB rb_ops.toArray 9=true:=by kernel_rfl
set_option maxRecDepth 100000 in
set_option maxHeartbeats 8000000 in
theorem rb_obs (w0:World) (S:Nat→Prop) (Ob Bx gb gf lo g0 g1 n c:Nat) (A:Option Addr) (cells:List Value) (kk b mr:Int) (q:Pl) (x x':Tm) (VF:Value) (hS:∀ k,S k→k<g0) (hO:w0.heap[Ob]?=some (outK kk (.slice A n c))) (hB:w0.heap[Bx]?=some (tmO q x)) (hb:w0.heap[gb]?=some (.cells #[.int .i64 b] 3 (0,0))) (hf:w0.heap[gf]?=some (.cells #[VF] 68 (0,0))) (hV:w0.ownsRow lo 28 8 (.slice A n c) n cells) (hn:n≤100) (hlo:Ob<lo) (hlz:lo≤w0.heap.size) (hVB:(Value.slice A n c).ownBlock≠some Bx) (hBO:Bx≠Ob) (hbO:gb<Ob) (hfO:gf<Ob) (hg0:g0≤Ob) (hg1:g1≤Ob) (hr:-9223372036854775808≤b+mr∧b+mr≤9223372036854775807) (hIH:∀ w,w0.heap.size≤w.heap.size→(∀ k,k<g1→w.heap[k]?=w0.heap[k]?)→Calls Try.prog 60 #[tmV q x,.int .i64 (b+mr),VF] w (TmGot w S x')) (Q:Exit→Act→World→Prop) (a0:Act) (hi4:a0.tmps.getD 4 undef=.pointer (some ⟨gb,0,none⟩)) (hi5:a0.tmps.getD 5 undef=.pointer (some ⟨gf,0,none⟩)) (hi7:a0.tmps.getD 7 undef=.pointer (some ⟨Ob,0,none⟩)) (hi8:a0.tmps.getD 8 undef=.int .i64 mr) (hi9:a0.tmps.getD 9 undef=.pointer (some ⟨Bx,0,none⟩)) :
  ObsE Try.prog rb_ops.toArray Q (est2 10 14 (fun k=>(Value.slice A n c).ownBlock=some k) (fun k=>k=Ob)) rb_C (rb_F w0 S Ob Bx gb gf lo g0 g1 n c A cells kk b mr q x x' VF) a0 w0 rb_ops.toArray.toList 0:=by
 have nw4:=rb_nw4
 have nw5:=rb_nw5
 have nw7:=rb_nw7
 have nw8:=rb_nw8
 have nw9:=rb_nw9
 refine ⟨?_,?_,?_,?_,?_,?_,?_,?_,?_,?_,?_,?_,?_,?_,?_,trivial⟩
 ·refine ⟨⟨fun τ=>stableE_det _,leans_not⟩,?_⟩
  intro a w O hk
  have e7:a.eval (.tmp 7)=.pointer (some ⟨Ob,0,none⟩):=(hk.init 7 (initialB_of_nw nw7)).trans hi7
  exact obE_run (wanted_none rfl) (by unfold execOp;simp only [];rw [e7];go_simp) rfl
 ·refine ⟨⟨fun τ=>stableE_det _,leans_not⟩,?_⟩
  intro a w O hk
  have e23:a.eval (.tmp 23)=.pointer (some ⟨Ob,7,none⟩):=hk.fact 0 _ 23 rfl rfl rfl rfl
  have x7:=(hk.est 14 _ rfl (.inr rfl) Ob (.inr ⟨rfl,rfl⟩)).trans hO
  obtain ⟨p0,p1,p2,p3,p4,p5,p6,p7,-,-,-,-,-,-,-,-⟩:=row8c x7
  exact obE_run (wanted_none rfl) (by unfold execOp;simp only [];rw [e23];go_simp) rfl
 ·refine ⟨⟨fun τ=>stableE_det _,leans_not⟩,?_⟩
  intro a w O hk
  have e9:a.eval (.tmp 9)=.pointer (some ⟨Bx,0,none⟩):=(hk.init 9 (initialB_of_nw nw9)).trans hi9
  have xB:=(hk.fix Bx (est2_fix (blk_lt hB) (fun e=>hVB e) (fun e=>hBO e))).trans hB
  exact obE_loadRow rfl e9 xB Try.underlying28 rfl (by kernel_rfl) (wanted_none rfl) rfl
 ·refine ⟨⟨fun τ=>stableE_det _,leans_not⟩,?_⟩
  intro a w O hk
  have e4:a.eval (.tmp 4)=.pointer (some ⟨gb,0,none⟩):=(hk.init 4 (initialB_of_nw nw4)).trans hi4
  have xb:=(hk.fix gb (est2_fix (blk_lt hb) (fun e=>by have:=own_base hV gb e;omega) (fun e=>by have e:gb=Ob:=e;omega))).trans hb
  have p0:w.cell? ⟨gb,0,none⟩=some (.int .i64 b):=by rw [cell_of_row _ _ _ _ _ _ xb];rfl
  exact obE_run (wanted_none rfl) (by unfold execOp;simp only [];rw [e4];go_simp) rfl
 ·refine ⟨⟨fun τ=>stableE_det _,leans_not⟩,?_⟩
  intro a w O hk
  have e8:a.eval (.tmp 8)=.int .i64 mr:=(hk.init 8 (initialB_of_nw nw8)).trans hi8
  exact toE (ob_move rfl e8 (wanted_none rfl) rfl)
 ·refine ⟨⟨fun τ=>stableE_det _,leans_not⟩,?_⟩
  intro a w O hk
  have e26:a.eval (.tmp 26)=.int .i64 b:=hk.fact 3 _ 26 rfl rfl rfl rfl
  have e27:a.eval (.tmp 27)=.int .i64 mr:=hk.fact 4 _ 27 rfl rfl rfl rfl
  have hw9:IntKind.i64.wrap (b+mr)=b+mr:=IntWalk.i64_in _ hr
  exact obE_run (wanted_none rfl) (by unfold execOp;simp only [];rw [e26,e27];go_simp) rfl
 ·refine ⟨⟨fun τ=>stableE_det _,leans_not⟩,?_⟩
  intro a w O hk
  have e5:a.eval (.tmp 5)=.pointer (some ⟨gf,0,none⟩):=(hk.init 5 (initialB_of_nw nw5)).trans hi5
  have xf:=(hk.fix gf (est2_fix (blk_lt hf) (fun e=>by have:=own_base hV gf e;omega) (fun e=>by have e:gf=Ob:=e;omega))).trans hf
  have p0:w.cell? ⟨gf,0,none⟩=some VF:=by rw [cell_of_row _ _ _ _ _ _ xf];rfl
  exact obE_run (wanted_none rfl) (by unfold execOp;simp only [];rw [e5];go_simp) rfl
 ·refine ⟨⟨fun τ=>stableE_tm (fun k hk'=>est2_fix (by have hk':k<g0:=hS _ hk';omega) (fun e=>by have:=own_base hV k e;have hk':k<g0:=hS _ hk';omega) (fun e=>by have e:k=Ob:=e;have hk':k<g0:=hS _ hk';omega)),leans_not⟩,?_⟩
  intro a w O hk
  have e25:a.eval (.tmp 25)=tmV q x:=hk.fact 2 _ 25 rfl rfl rfl rfl
  have e28:a.eval (.tmp 28)=.int .i64 (b+mr):=hk.fact 5 _ 28 rfl rfl rfl rfl
  have e29:a.eval (.tmp 29)=VF:=hk.fact 6 _ 29 rfl rfl rfl rfl
  exact obE_tmCall #[tmV q x,.int .i64 (b+mr),VF] rfl rfl rfl rfl (by simp only [List.map_cons,List.map_nil];rw [e25,e28,e29];try rfl) (wanted_none rfl) ((hIH w hk.world.size (fun k hk'=>hk.fix k (est2_fix (by omega) (fun e=>by have:=own_base hV k e;omega) (fun e=>by have e:k=Ob:=e;omega)))).mono fun e w' ⟨q',h1,h2,h3⟩=>⟨q',h1,h2.mono fun k h hz=>h.elim (fun h=>.inl (.inl h)) .inr,h3⟩)
 ·refine ⟨⟨fun τ=>stableE_det _,leans_not⟩,?_⟩
  intro a w O hk
  have e24:a.eval (.tmp 24)=.slice A n c:=hk.fact 1 _ 24 rfl rfl rfl rfl
  exact toE (ob_len rfl e24 Try.underlying26 (wanted_none rfl) rfl)
 ·refine ⟨⟨fun τ=>stableE_ex fun p=>stableE_and stableE_pure (stableE_block _ _),leans_not⟩,?_⟩
  intro a w O hk
  exact obE_lit (cs:=zeroC.toArray) (e:=28) (wanted_none rfl) (by unfold execOp;simp only [List.map_toArray,List.map_cons,List.map_nil];go_simp) (fun w' h _=>⟨_,rfl,h,rfl⟩)
 ·refine ⟨⟨fun τ=>stableE_own _ _ _ _ _,leans_not⟩,?_⟩
  intro a w O hk
  have e24:a.eval (.tmp 24)=.slice A n c:=hk.fact 1 _ 24 rfl rfl rfl rfl
  have f32:=hk.fact 9 _ 32 rfl rfl rfl rfl
  have g32:=hk.owns 9 rfl rfl
  have ow:=ownsRow_same hV (fun k hk'=>hk.est 10 _ rfl (.inl rfl) k (.inl ⟨rfl,hk'⟩))
  obtain ⟨p,q32,hp,-⟩:=f32
  have e32:a.eval (.tmp 32)=.slice (some ⟨p,0,none⟩) 1 1:=q32
  refine obE_listGrew (.slice A n c) (wanted_none rfl) (fun k hk=>.inr (.inl ⟨rfl,hk⟩)) (fun Q' hQ=>?_)
  refine print_append_at lo rfl (.tmp 24) (.tmp 32) 26 28 _ 8 120 rfl Try.underlying26 infoTm rfl (by decide) (by decide) (.slice A n c) n cells zeroC e24 e32 hp rfl (List.all_eq_true.1 rfl) ow (by omega) (Nat.le_trans hlz hk.world.size) ?_
  intro v1 w1 ho1 hg hat
  exact hQ v1 w1 ho1 hg hat
 ·refine ⟨⟨fun τ=>stableE_pure,fun τ τ' h=>by have e:τ' 33=τ 33:=h 10 _ 33 rfl rfl rfl;show (fun (v:Value) (w:World) (O:Nat→Prop)=>∃ g c2,τ 33=.slice (some ⟨g,0,none⟩) (n+1) c2∧v=.pointer (some ⟨g,n * 8,none⟩))=(fun (v:Value) (w:World) (O:Nat→Prop)=>∃ g c2,τ' 33=.slice (some ⟨g,0,none⟩) (n+1) c2∧v=.pointer (some ⟨g,n * 8,none⟩));rw [e]⟩,?_⟩
  intro a w O hk
  have e31:a.eval (.tmp 31)=.int .i64 n:=hk.fact 8 _ 31 rfl rfl rfl rfl
  obtain ⟨τ9,w9,O9,hs9⟩:=hk.shape 10 _ 33 rfl rfl rfl
  have hso:=hs9.1
  obtain ⟨g9,c9,q33,-,-⟩:=World.ownsRow.form hso (by omega)
  have e33:a.eval (.tmp 33)=.slice (some ⟨g9,0,none⟩) (n+1) c9:=q33
  exact obE_run (wanted_none rfl) (run_elemAddr rfl e33 e31) ⟨g9,c9,q33,rfl⟩
 ·refine ⟨⟨fun τ=>stableE_row (fun k hk'=>est2_fix (by have hk':k<g0:=hS _ hk';omega) (fun e=>by have:=own_base hV k e;have hk':k<g0:=hS _ hk';omega) (fun e=>by have e:k=Ob:=e;have hk':k<g0:=hS _ hk';omega)),fun τ τ' h=>by have e:τ' 33=τ 33:=h 10 _ 33 rfl rfl rfl;show (fun (v:Value) (w:World) (O:Nat→Prop)=>RowT S lo n cells x' (τ 33) w O)=(fun (v:Value) (w:World) (O:Nat→Prop)=>RowT S lo n cells x' (τ' 33) w O);rw [e]⟩,?_⟩
  intro a w O hk
  have f34:=hk.fact 11 _ 34 rfl rfl rfl rfl
  have g34:=hk.owns 11 rfl rfl
  have f30:=hk.fact 7 _ 30 rfl rfl rfl rfl
  have g30:=hk.owns 7 rfl rfl
  have f33:=hk.fact 10 _ 33 rfl rfl rfl rfl
  obtain ⟨g9,c9,q33,q34⟩:=f34
  exact obE_tmElem rfl (wanted_none rfl) q33 q34 f33 f30 (fun k h=>.inl ⟨10,by simp [rb_C],h⟩) (fun k h=>.inl ⟨7,by simp [rb_C],h⟩) (hk.apart 10 7 rfl rfl rfl rfl (by decide)) (fun k h1 h2=>by have h1:k<g0:=hS _ h1;exact ((hk.owns 10 rfl rfl) k h2).2 (est2_fix (by omega) (fun e=>by have:=own_base hV k e;omega) (fun e=>by have e:k=Ob:=e;omega)))
 ·refine ⟨⟨fun τ=>stableE_det _,leans_not⟩,?_⟩
  intro a w O hk
  have e7:a.eval (.tmp 7)=.pointer (some ⟨Ob,0,none⟩):=(hk.init 7 (initialB_of_nw nw7)).trans hi7
  exact obE_run (wanted_none rfl) (by unfold execOp;simp only [];rw [e7];go_simp) rfl
 ·refine ⟨⟨fun τ=>(fun v w w' O h hz hk=>⟨(hk Ob (blk_lt h.1) (.inr h.2)).trans h.1,h.2⟩),fun τ τ' h=>by have e:τ' 33=τ 33:=h 10 _ 33 rfl rfl rfl;show (fun (v:Value) (w:World) (O:Nat→Prop)=>w.heap[Ob]?=some (outK kk (τ 33))∧O Ob)=(fun (v:Value) (w:World) (O:Nat→Prop)=>w.heap[Ob]?=some (outK kk (τ' 33))∧O Ob);rw [e]⟩,?_⟩
  intro a w O hk
  have e35:a.eval (.tmp 35)=.pointer (some ⟨Ob,7,none⟩):=hk.fact 13 _ 35 rfl rfl rfl rfl
  obtain ⟨τ9,w9,O9,hs9⟩:=hk.shape 10 _ 33 rfl rfl rfl
  obtain ⟨A3,c3,q33⟩:=own_slice hs9.1
  have e33:a.eval (.tmp 33)=.slice A3 (n+1) c3:=q33
  have x7:=(hk.est 14 _ rfl (.inl rfl) Ob (.inr ⟨rfl,rfl⟩)).trans hO
  obtain ⟨p0,p1,p2,p3,p4,p5,p6,p7,k0,k1,k2,k3,k4,k5,k6,k7⟩:=row8c x7
  refine obE_store (w':=w.setCell ⟨Ob,7,none⟩ (.slice A3 (n+1) c3)) (fun k=>k=Ob) (wanted_none rfl) (by unfold execOp;simp only [];rw [e35,e33];go_simp) ((chg_set w Ob 7 _).mono fun k h=>.inr (.inr ⟨rfl,h⟩)) ⟨?_,rfl⟩ (fun k h=>.inl (.inr (.inr ⟨rfl,h⟩)))
  show _=some (outK kk (a.tmps.getD 33 undef))
  rw [q33]
  exact blk_put x7 7 _ rfl
set_option maxRecDepth 100000 in
set_option maxHeartbeats 8000000 in
theorem rb_region {Q:Exit→Act→World→Prop} {id:Nat} {l m:Nat} (hQ:¬ LetsOut Q) (w0:World) (S:Nat→Prop) (Ob Bx gb gf lo g0 g1 n c:Nat) (A:Option Addr) (cells:List Value) (kk b mr:Int) (q:Pl) (x x':Tm) (VF:Value) {s0 s1 s2 s3 s6 s10 s11 s12 s13 s14 s15 s16 s17 s18 s19 s20 s21 s22 s23 s24 s25 s26 s27 s28 s29 s30 s31 s32 s33 s34 s35 s36:Value} (hS:∀ k,S k→k<g0) (hO:w0.heap[Ob]?=some (outK kk (.slice A n c))) (hB:w0.heap[Bx]?=some (tmO q x)) (hb:w0.heap[gb]?=some (.cells #[.int .i64 b] 3 (0,0))) (hf:w0.heap[gf]?=some (.cells #[VF] 68 (0,0))) (hV:w0.ownsRow lo 28 8 (.slice A n c) n cells) (hn:n≤100) (hlo:Ob<lo) (hlz:lo≤w0.heap.size) (hVB:(Value.slice A n c).ownBlock≠some Bx) (hBO:Bx≠Ob) (hbO:gb<Ob) (hfO:gf<Ob) (hg0:g0≤Ob) (hg1:g1≤Ob) (hr:-9223372036854775808≤b+mr∧b+mr≤9223372036854775807) (hIH:∀ w,w0.heap.size≤w.heap.size→(∀ k,k<g1→w.heap[k]?=w0.heap[k]?)→Calls Try.prog 60 #[tmV q x,.int .i64 (b+mr),VF] w (TmGot w S x'))
  (hend:∀ (w':World) (u30:Value) (u32:Value) (u33:Value) (u34:Value) (O9:Nat→Prop) (O11:Nat→Prop) (v12:Value) (O12:Nat→Prop) (v14:Value) (O14:Nat→Prop),Chg (fun k=>(fun k=>(Value.slice A n c).ownBlock=some k) k∨(fun k=>k=Ob) k) w0 w'→(∃ p,u32=.slice (some ⟨p,0,none⟩) 1 1∧w'.heap[p]?=some (.cells zeroC.toArray 28 (0,0))∧O9 p)→(∀ k,O9 k→k<w'.heap.size∧¬ Fix w0 (est2 10 14 (fun k=>(Value.slice A n c).ownBlock=some k) (fun k=>k=Ob)) k)→(∃ g c2,u33=.slice (some ⟨g,0,none⟩) (n+1) c2∧u34=.pointer (some ⟨g,n * 8,none⟩))→(∀ k,O11 k→k<w'.heap.size∧¬ Fix w0 (est2 10 14 (fun k=>(Value.slice A n c).ownBlock=some k) (fun k=>k=Ob)) k)→(RowT S lo n cells x' (u33) w' O12)→(∀ k,O12 k→k<w'.heap.size∧¬ Fix w0 (est2 10 14 (fun k=>(Value.slice A n c).ownBlock=some k) (fun k=>k=Ob)) k)→(w'.heap[Ob]?=some (outK kk (u33))∧O14 Ob)→(∀ k,O14 k→k<w'.heap.size∧¬ Fix w0 (est2 10 14 (fun k=>(Value.slice A n c).ownBlock=some k) (fun k=>k=Ob)) k)→(∀ k,O12 k→¬ O14 k)→Q .normal { tmps:=(s0 :: s1 :: s2 :: s3 :: (.pointer (some ⟨gb,0,none⟩)) :: (.pointer (some ⟨gf,0,none⟩)) :: s6 :: (.pointer (some ⟨Ob,0,none⟩)) :: (.int .i64 mr) :: (.pointer (some ⟨Bx,0,none⟩)) :: s10 :: s11 :: s12 :: s13 :: s14 :: s15 :: s16 :: s17 :: s18 :: s19 :: s20 :: s21 :: s22 :: (.pointer (some ⟨Ob,7,none⟩)) :: (.slice A n c) :: (tmV q x) :: (.int .i64 b) :: (.int .i64 mr) :: (.int .i64 (b+mr)) :: VF :: u30 :: (.int .i64 n) :: u32 :: u33 :: u34 :: (.pointer (some ⟨Ob,7,none⟩)) :: s36 :: []:List Value).toArray,defers:=[] } w') :
  (Code.region id rb_ops.toArray true).wpIn (Fence.wide.inRound l) m Try.prog Q { tmps:=(s0 :: s1 :: s2 :: s3 :: (.pointer (some ⟨gb,0,none⟩)) :: (.pointer (some ⟨gf,0,none⟩)) :: s6 :: (.pointer (some ⟨Ob,0,none⟩)) :: (.int .i64 mr) :: (.pointer (some ⟨Bx,0,none⟩)) :: s10 :: s11 :: s12 :: s13 :: s14 :: s15 :: s16 :: s17 :: s18 :: s19 :: s20 :: s21 :: s22 :: s23 :: s24 :: s25 :: s26 :: s27 :: s28 :: s29 :: s30 :: s31 :: s32 :: s33 :: s34 :: s35 :: s36 :: []:List Value).toArray,defers:=[] } w0:=by
 refine wpIn_region_est hQ (by kernel_rfl) (by kernel_rfl) (est2 10 14 (fun k=>(Value.slice A n c).ownBlock=some k) (fun k=>k=Ob)) rb_C (rb_F w0 S Ob Bx gb gf lo g0 g1 n c A cells kk b mr q x x' VF) (est2_dis (fun k h h2=>by have:=own_base hV k h;have h2:k=Ob:=h2;omega)) (est2_range (fun k hk=>own_lt hV k hk) (fun k hk=>hk ▸ blk_lt hO)) (by rfl) (by kernel_rfl) (rb_obs w0.drew S Ob Bx gb gf lo g0 g1 n c A cells kk b mr q x x' VF (fun k h=>hS k h) hO hB hb hf hV hn hlo hlz hVB hBO hbO hfO hg0 hg1 hr (fun w h1 h2=>hIH w h1 h2) _ _ rfl rfl rfl rfl rfl) ?_
 intro a w' O hd hs hb hf hf2 ha hsame
 have hl:=slots_eq (ops:=rb_ops.toArray) [(23,.pointer (some ⟨Ob,7,none⟩)),(24,.slice A n c),(25,tmV q x),(26,.int .i64 b),(27,.int .i64 mr),(28,.int .i64 (b+mr)),(29,VF),(30,a.tmps.getD 30 undef),(31,.int .i64 n),(32,a.tmps.getD 32 undef),(33,a.tmps.getD 33 undef),(34,a.tmps.getD 34 undef),(35,.pointer (some ⟨Ob,7,none⟩))] (show a.tmps.size=37 from hs) (fun i h=>hsame i h) ⟨(hf 0 _ 23 rfl rfl (by decide)).1,(hf 1 _ 24 rfl rfl (by decide)).1,(hf 2 _ 25 rfl rfl (by decide)).1,(hf 3 _ 26 rfl rfl (by decide)).1,(hf 4 _ 27 rfl rfl (by decide)).1,(hf 5 _ 28 rfl rfl (by decide)).1,(hf 6 _ 29 rfl rfl (by decide)).1,rfl,(hf 8 _ 31 rfl rfl (by decide)).1,rfl,rfl,rfl,(hf 13 _ 35 rfl rfl (by decide)).1,trivial⟩ (by kernel_rfl)
 obtain ⟨tmps,defers⟩:=a
 obtain rfl:defers=[]:=hd
 have hl':tmps=_:=hl
 rw [hl']
 obtain ⟨⟨v12,hv12⟩,ho12⟩:=hf2 12 _ rfl rfl (by decide)
 obtain ⟨⟨v14,hv14⟩,ho14⟩:=hf2 14 _ rfl rfl (by decide)
 have hb':=est2_chg hb
 refine Eq.mp ?_ (hend w' (tmps.getD 30 undef) (tmps.getD 32 undef) (tmps.getD 33 undef) (tmps.getD 34 undef) (O 9) (O 11) v12 (O 12) v14 (O 14) ⟨hb'.os,hb'.tape,hb'.output,hb'.size,hb'.block⟩ (hf 9 _ 32 rfl rfl (by decide)).1 (hf 9 _ 32 rfl rfl (by decide)).2 (hf 11 _ 34 rfl rfl (by decide)).1 (hf 11 _ 34 rfl rfl (by decide)).2 hv12 ho12 hv14 ho14 (ha 12 14 (by decide) (by decide) (by decide) (by decide) (by decide)))
 kernel_rfl

end Go.Proofs.Ytdboloabpjmgaaa

namespace Go.Proofs.Ytdboloabpjmgaaa
open Go.RowKit Go.Proofs.YtdboloabpjmgaaaW.PrintWords Go.RegionInvYtdboloabpjmgaaa

def leafR (t:Tm):Bool:=decide (arZ t.kind<0∨(t.kids.length:Int)<arZ t.kind)
theorem nK_eq {t:Tm} (h:leafR t=false):(nK t:Int)=arZ t.kind∧0≤arZ t.kind∧arZ t.kind≤t.kids.length:=by
 have h':=of_decide_eq_false h
 unfold nK
 rw [if_neg (by omega)]
 omega
theorem nK_leaf {t:Tm} (h:leafR t=true):nK t=0:=by
 have h':=of_decide_eq_true h
 unfold nK
 split
 ·rfl
 ·omega
def sizeT (t:Tm):Nat:=1+((List.finRange (nK t)).map fun i=>sizeT (kidF t i)).sum
termination_by SizeOf.sizeOf t
decreasing_by exact kidF_lt t i
def depthT (t:Tm):Nat:=1+((List.finRange (nK t)).map fun i=>depthT (kidF t i)).foldr max 0
termination_by SizeOf.sizeOf t
decreasing_by exact kidF_lt t i
def okT (t:Tm):Prop:=sizeT t≤20000∧depthT t≤2000
instance (t:Tm):Decidable (okT t):=by unfold okT;infer_instance
def finC (r:Bool × Int):Bool × Int:=(r.1 && decide (r.2≤20000),r.2)
def cntP (t:Tm) (d n:Int):Bool × Int:=
 if 2000<d then (false,n+1) else if leafR t=true then (true,n+1) else
  finC (runL (fun (i:Fin (nK t)) m=>if 20000<m then (false,m) else cntP (kidF t i) (d+1) m) (List.finRange (nK t)) (n+1))
termination_by SizeOf.sizeOf t
decreasing_by exact kidF_lt t i
def kidsC (t:Tm) (d:Int) (i:Fin (nK t)) (m:Int):Bool × Int:=if 20000<m then (false,m) else cntP (kidF t i) (d+1) m
theorem cnt_deep {t:Tm} {d n:Int} (h:2000<d):cntP t d n=(false,n+1):=by rw [cntP,if_pos h]
theorem cnt_leaf {t:Tm} {d n:Int} (h:¬ 2000<d) (hl:leafR t=true):cntP t d n=(true,n+1):=by rw [cntP,if_neg h,if_pos hl]
theorem cnt_go {t:Tm} {d n:Int} (h:¬ 2000<d) (hl:leafR t=false):cntP t d n=finC (runL (kidsC t d) (List.finRange (nK t)) (n+1)):=by
 rw [cntP,if_neg h,if_neg (by rw [hl];decide)];rfl
theorem size_leaf {t:Tm} (h:nK t=0):sizeT t=1:=by
 rw [sizeT]
 have:List.finRange (nK t)=[]:=List.eq_nil_of_length_eq_zero (by rw [List.length_finRange];exact h)
 rw [this];rfl
theorem depth_leaf {t:Tm} (h:nK t=0):depthT t=1:=by
 rw [depthT]
 have:List.finRange (nK t)=[]:=List.eq_nil_of_length_eq_zero (by rw [List.length_finRange];exact h)
 rw [this];rfl
theorem max_le_of {l:List Nat} {b:Nat} (h:∀ x∈l,x≤b):l.foldr max 0≤b:=by
 induction l with
 | nil=>exact Nat.zero_le _
 | cons a r ih =>
  rw [List.foldr_cons]
  have h1:=h a (List.mem_cons_self ..)
  have h2:=ih fun x hx=>h x (List.mem_cons_of_mem _ hx)
  omega
theorem le_max_of {l:List Nat} {x:Nat} (h:x∈l):x≤l.foldr max 0:=by
 induction l with
 | nil=>cases h
 | cons a r ih =>
  rw [List.foldr_cons]
  rcases List.mem_cons.1 h with rfl | h
  ·omega
  ·have:=ih h;omega
theorem depth_kid (t:Tm) (i:Fin (nK t)):depthT (kidF t i)+1≤depthT t:=by
 rw [depthT.eq_def t]
 have:=le_max_of (l:=(List.finRange (nK t)).map fun i=>depthT (kidF t i)) (x:=depthT (kidF t i)) (List.mem_map.2 ⟨i,List.mem_finRange i,rfl⟩)
 omega
theorem size_pos (t:Tm):1≤sizeT t:=by rw [sizeT];omega
theorem le_sum_of {l:List Nat} {x:Nat} (h:x∈l):x≤l.sum:=by
 induction l with
 | nil=>cases h
 | cons a r ih =>
  rw [List.sum_cons]
  rcases List.mem_cons.1 h with rfl | h
  ·omega
  ·have:=ih h;omega
theorem size_kid (t:Tm) (i:Fin (nK t)):sizeT (kidF t i)+1≤sizeT t:=by
 rw [sizeT.eq_def t]
 have:=le_sum_of (l:=(List.finRange (nK t)).map fun i=>sizeT (kidF t i)) (x:=sizeT (kidF t i)) (List.mem_map.2 ⟨i,List.mem_finRange i,rfl⟩)
 omega
theorem okT.kid {t:Tm} (h:okT t) (i:Fin (nK t)):okT (kidF t i):=⟨by have:=size_kid t i;have:=h.1;omega,by have:=depth_kid t i;have:=h.2;omega⟩
theorem cnt_bd (N:Nat):∀ (t:Tm),SizeOf.sizeOf t<N→∀ (d n:Int),n≤20000→n+1≤(cntP t d n).2∧(cntP t d n).2≤20001:=by
 induction N with
 | zero=>intro t h;omega
 | succ N ih =>
  intro t hN d n hn
  by_cases h1:2000<d
  ·rw [cnt_deep h1];simp only;omega
  ·cases hl:leafR t with
   | true=>rw [cnt_leaf h1 hl];simp only;omega
   | false =>
    rw [cnt_go h1 hl]
    have key:∀ (xs:List (Fin (nK t))) (m:Int),m≤20001→m≤(runL (kidsC t d) xs m).2∧(runL (kidsC t d) xs m).2≤20001:=by
     intro xs
     induction xs with
     | nil=>intro m hm;exact ⟨Int.le_refl _,hm⟩
     | cons x r ihr =>
      intro m hm
      have h2:m≤(kidsC t d x m).2∧(kidsC t d x m).2≤20001:=by
       unfold kidsC
       by_cases hg:20000<m
       ·rw [if_pos hg];simp only;omega
       ·rw [if_neg hg]
        have:=ih (kidF t x) (by have:=kidF_lt t x;omega) (d+1) m (by omega)
        omega
      rw [runL]
      by_cases hc:(kidsC t d x m).1=true
      ·rw [if_pos hc]
       have:=ihr _ h2.2
       omega
      ·rw [if_neg hc];exact h2
    have:=key (List.finRange (nK t)) (n+1) (by omega)
    unfold finC
    simp only
    omega
theorem cnt_true (N:Nat):∀ (t:Tm),SizeOf.sizeOf t<N→∀ (d n:Int),(cntP t d n).1=true→d+depthT t≤2001∧(cntP t d n).2=n+sizeT t∧(leafR t=false→n+sizeT t≤20000):=by
 induction N with
 | zero=>intro t h;omega
 | succ N ih =>
  intro t hN d n h
  by_cases h1:2000<d
  ·rw [cnt_deep h1] at h;cases h
  ·cases hl:leafR t with
   | true =>
    rw [cnt_leaf h1 hl]
    have h2:=nK_leaf hl
    rw [size_leaf h2,depth_leaf h2]
    exact ⟨by omega,by simp,fun h=>by cases h⟩
   | false =>
    rw [cnt_go h1 hl] at h ⊢
    have key:∀ (xs:List (Fin (nK t))) (m:Int),(runL (kidsC t d) xs m).1=true→(runL (kidsC t d) xs m).2=m+((xs.map fun i=>sizeT (kidF t i)).sum:Nat)∧∀ x∈xs,d+1+depthT (kidF t x)≤2001:=by
     intro xs
     induction xs with
     | nil=>intro m _;exact ⟨by simp [runL],fun x hx=>by cases hx⟩
     | cons x r ihr =>
      intro m hm
      rw [runL] at hm ⊢
      by_cases hc:(kidsC t d x m).1=true
      ·rw [if_pos hc] at hm ⊢
       have hk:kidsC t d x m=cntP (kidF t x) (d+1) m:=by
        unfold kidsC at hc ⊢
        by_cases hg:20000<m
        ·rw [if_pos hg] at hc;cases hc
        ·rw [if_neg hg]
       have h3:=ihr _ hm
       have h4:=ih (kidF t x) (by have:=kidF_lt t x;omega) (d+1) m (by rw [← hk];exact hc)
       rw [hk] at h3 ⊢
       refine ⟨?_,fun y hy=>?_⟩
       ·rw [h3.1,h4.2.1,List.map_cons,List.sum_cons]
        push_cast
        omega
       ·rcases List.mem_cons.1 hy with rfl | hy
        ·exact h4.1
        ·exact h3.2 y hy
      ·rw [if_neg hc] at hm;cases hm
    unfold finC at h ⊢
    simp only [Bool.and_eq_true,decide_eq_true_eq] at h
    have h2:=key _ _ h.1
    have h3:d+depthT t≤2001:=by
     rw [depthT]
     have:((List.finRange (nK t)).map fun i=>depthT (kidF t i)).foldr max 0≤(2000 - d).toNat:=by
      refine max_le_of fun x hx=>?_
      obtain ⟨i,hi,rfl⟩:=List.mem_map.1 hx
      have:=h2.2 i hi
      omega
     omega
    have h4:(runL (kidsC t d) (List.finRange (nK t)) (n+1)).2=n+sizeT t:=by
     rw [h2.1,sizeT];push_cast;omega
    exact ⟨h3,h4,fun _=>by rw [← h4];exact h.2⟩
theorem cnt_ok (N:Nat):∀ (t:Tm),SizeOf.sizeOf t<N→∀ (d n:Int),d+depthT t≤2001→n+sizeT t≤20000→cntP t d n=(true,n+sizeT t):=by
 induction N with
 | zero=>intro t h;omega
 | succ N ih =>
  intro t hN d n hd hn
  have h1:¬ 2000<d:=by
   have:1≤depthT t:=by rw [depthT];omega
   omega
  cases hl:leafR t with
  | true=>rw [cnt_leaf h1 hl,size_leaf (nK_leaf hl)];rfl
  | false =>
   rw [cnt_go h1 hl]
   have key:∀ (xs:List (Fin (nK t))) (m:Int),m+((xs.map fun i=>sizeT (kidF t i)).sum:Nat)≤20000→runL (kidsC t d) xs m=(true,m+((xs.map fun i=>sizeT (kidF t i)).sum:Nat)):=by
    intro xs
    induction xs with
    | nil=>intro m _;simp [runL]
    | cons x r ihr =>
     intro m hm
     rw [List.map_cons,List.sum_cons] at hm ⊢
     have hp:=size_pos (kidF t x)
     have hk:kidsC t d x m=(true,m+sizeT (kidF t x)):=by
      unfold kidsC
      rw [if_neg (by push_cast at hm;omega)]
      exact ih (kidF t x) (by have:=kidF_lt t x;omega) (d+1) m (by have:=depth_kid t x;omega) (by push_cast at hm;omega)
     rw [runL,hk,if_pos rfl,ihr _ (by push_cast at hm ⊢;omega)]
     simp only [Prod.mk.injEq,true_and]
     push_cast
     omega
   have e:(1:Int)+(((List.finRange (nK t)).map fun i=>sizeT (kidF t i)).sum:Nat)=sizeT t:=by rw [sizeT.eq_def t];push_cast;rfl
   rw [key _ _ (by omega)]
   unfold finC
   simp only [Bool.true_and,Prod.mk.injEq,decide_eq_true_eq]
   omega
theorem great_ok (t:Tm):(cntP t 1 0).1=decide (okT t):=by
 by_cases h:okT t
 ·rw [cnt_ok _ t (Nat.lt_succ_self _) 1 0 (by have:=h.2;omega) (by have:=h.1;omega),decide_eq_true h]
 ·rw [decide_eq_false h]
  cases hc:(cntP t 1 0).1 with
  | false=>rfl
  | true =>
   have h1:=cnt_true _ t (Nat.lt_succ_self _) 1 0 hc
   refine absurd ⟨?_,by have:=h1.1;omega⟩ h
   cases hl:leafR t with
   | true=>rw [size_leaf (nK_leaf hl)];decide
   | false=>have:=h1.2.2 hl;omega
end Go.Proofs.Ytdboloabpjmgaaa

namespace Go.Proofs.Ytdboloabpjmgaaa
open Go.RowKit Go.Proofs.YtdboloabpjmgaaaW.PrintWords Go.RegionInvYtdboloabpjmgaaa Go.RegionEYtdboloabpjmgaaa

def rebP (RF:Tm→Int→Tm) (t:Tm) (b:Int):Tm:=
 if leafT t=true then RF t b else .mk t.kind 0 noName (.mk 0 0 []) [] ((List.finRange (nK t)).map fun i=>rebP RF (kidF t i) (b+moreZ t i))
termination_by SizeOf.sizeOf t
decreasing_by exact kidF_lt t i
def rebKids (RF:Tm→Int→Tm) (t:Tm) (b:Int) (xs:List (Fin (nK t))):List Tm:=xs.map fun i=>rebP RF (kidF t i) (b+moreZ t i)
theorem reb_leaf {RF:Tm→Int→Tm} {t:Tm} {b:Int} (h:leafT t=true):rebP RF t b=RF t b:=by rw [rebP,if_pos h]
theorem reb_node {RF:Tm→Int→Tm} {t:Tm} {b:Int} (h:leafT t=false):rebP RF t b=.mk t.kind 0 noName (.mk 0 0 []) [] (rebKids RF t b (List.finRange (nK t))):=by
 rw [rebP,if_neg (by rw [h];decide)];rfl
theorem rebKids_snoc (RF:Tm→Int→Tm) (t:Tm) (b:Int) (pre:List (Fin (nK t))) (x:Fin (nK t)):rebKids RF t b (pre ++ [x])=rebKids RF t b pre ++ [rebP RF (kidF t x) (b+moreZ t x)]:=by
 unfold rebKids;rw [List.map_append];rfl
theorem rebKids_len (RF:Tm→Int→Tm) (t:Tm) (b:Int) (pre:List (Fin (nK t))):(rebKids RF t b pre).length=pre.length:=by unfold rebKids;rw [List.length_map]
theorem row_no {X:World} {r:Nat} (h:∃ o,X.heap[r]?=some o∧o.isCells=false):¬ CellsB X r:=by
 rintro ⟨cs,t,fr,e⟩
 obtain ⟨o,ho,hc⟩:=h
 rw [e] at ho
 cases ho
 cases hc
theorem own_cells {w:World} {base n:Nat} {e:TypeId} {size:Nat} {v:Value} {xs:List Value} {k:Nat} {o:Obj} (h:w.ownsRow base e size v n xs) (hk:v.ownBlock=some k) (ho:w.heap[k]?=some o) (hc:o.isCells=false):False:=by
 rcases h.2 with ⟨rfl,_⟩ | ⟨g,cap,cur,rfl,_,hh,_⟩
 ·simp [Value.ownBlock] at hk
 ·have:g=k:=by simpa [Value.ownBlock] using hk
  subst this
  rw [ho] at hh
  cases hh
  cases hc
theorem TmS.stay {w w':World} {S:Nat→Prop} {B:Nat} {p:Pl} {t:Tm} (h:TmS w S p t) (hS:∀ k,S k→k<B) (hb:Below B w w'):TmS w' S p t:=h.same fun k hk _=>hb.block k (hS k hk)
theorem reb_round {W w':World} {S:Nat→Prop} {g0 lo Ob L c:Nat} {A:Option Addr} {xs:List Tm} {x':Tm} {qq:Nat→Pl} {cells:List Value} {V:Value} {O12:Nat→Prop} {i1 i2:Nat} (hL:xs.length=L)
  (hk:∀ (i:Nat) (x:Tm),xs[i]?=some x→(∀ (j:Nat) (v:Value),(tmC (qq i) x)[j]?=some v→cells[i * 8+j]?=some v)∧TmS W (SetL S lo (.slice A L c)) (qq i) x)
  (hown:W.ownsRow lo 28 8 (.slice A L c) L cells) (hch:Chg (fun k=>(fun k=>(Value.slice A L c).ownBlock=some k) k∨(fun k=>k=Ob) k) W w')
  (h12:RowT S lo L cells x' V w' O12) (hO:∀ k,O12 k→k<w'.heap.size∧¬ Fix W (est2 i1 i2 (fun k=>(Value.slice A L c).ownBlock=some k) (fun k=>k=Ob)) k)
  (hOb:¬ O12 Ob) (hg:g0≤Ob) (hlo:Ob<lo) (hlz:lo≤W.heap.size) (hS:∀ k,S k→k<g0):KidsT w' S lo V (xs ++ [x']):=by
 obtain ⟨q',hown',hVO,ht⟩:=h12
 have hO2:∀ k,O12 k→lo≤k:=fun k hk=>by
  rcases Nat.lt_or_ge k lo with h | h
  ·refine absurd (est2_fix (by omega) (fun e=>?_) (fun e=>?_)) (hO k hk).2
   ·have:=own_base hown k e;omega
   ·have e:k=Ob:=e
    exact hOb (e ▸ hk)
  ·exact h
 have keep:∀ {p:Pl} {y:Tm},TmS W (SetL S lo (.slice A L c)) p y→TmS w' (SetL S lo V) p y:=by
  intro p y h
  have h1:TmS W (fun b=>SetL S lo (.slice A L c) b∧b<W.heap.size) p y:=h.mono fun k hk hz=>⟨hk,hz⟩
  refine (h1.same fun k hs hz=>hch.block k hz fun e=>?_).mono fun k hs _=>hs.1.imp id fun h=>⟨h.1,fun e=>?_⟩
  ·rcases e with e | e
   ·rcases hs.1 with h | h
    ·have:=hS _ h;have:=own_base hown k e;omega
    ·exact h.2 e
   ·have e:k=Ob:=e
    rcases hs.1 with h | h
    ·have:=hS _ h;omega
    ·omega
  ·refine (hO k (hVO k e)).2 (est2_fix hs.2 (fun e2=>h.2 e2) (fun e2=>?_))
   have e2:k=Ob:=e2
   omega
 have hl:cells.length=L * 8:=own_len hown
 refine ⟨_,fun i=>if i=L then q' else qq i,by rw [List.length_append,hL];exact hown',fun i y hy=>?_⟩
 rcases Nat.lt_or_ge i L with hi | hi
 ·rw [List.getElem?_append_left (by omega)] at hy
  obtain ⟨h1,h2⟩:=hk i y hy
  simp only [if_neg (show ¬ i=L by omega)]
  refine ⟨fun j v hv=>?_,keep h2⟩
  have hj:j<8:=by have:=(List.getElem?_eq_some_iff.1 hv).1;rwa [tmC_len] at this
  rw [List.getElem?_append_left (by omega)]
  exact h1 j v hv
 ·rw [List.getElem?_append_right (by omega)] at hy
  have hi2:i=L:=by
   cases e:i - xs.length with
   | zero=>omega
   | succ j=>rw [e] at hy;simp at hy
  subst hi2
  rw [hL,Nat.sub_self] at hy
  obtain rfl:x'=y:=by simpa using hy
  simp only [↓reduceIte]
  refine ⟨fun j v hv=>?_,ht.mono fun k h _=>h.imp id fun h=>⟨hO2 k h.1,h.2⟩⟩
  rw [List.getElem?_append_right (by omega),show i * 8+j - cells.length=j by omega]
  exact hv
end Go.Proofs.Ytdboloabpjmgaaa
